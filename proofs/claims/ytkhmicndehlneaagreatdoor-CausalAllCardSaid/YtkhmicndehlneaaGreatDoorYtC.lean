/- Part 29 of the walks and plain laws that this claim uses, joined. Conditions: as each theorem states. -/
import Derived.Test.YtkhmicndehlneaaGreatDoorYtA
namespace Go.Proofs.YtkhmicndehlneaaGreatDoor
set_option maxRecDepth 100000
set_option maxHeartbeats 16000000
section
open Go.RowKit Go.Lib Go.Sort
set_option linter.unusedVariables false
attribute [local go_sem ↓] Go.wp_at_zero Go.wp_at_succ
structure OpF (n0:Nat) (w00:World) (t r:Int) (dO:Array Value) (w:World):Prop where
 st:w.heap[n0]? =some (.cells #[.int .i64 t,.int .i64 r] 42 (0,0))
 do_:w.heap[n0+1]? =some (.cells dO 86 (0,0))
 rz:w.heap[n0+1+1]? =some (.cells #[.int .i64 0,.int .i64 0,.int .i64 0,.int .i64 0,.int .i64 0,.int .i64 0,.int .i64 0,.string ⟨#[]⟩,.bool false,.slice none 0 0,.int .i64 0,.int .i64 0,.int .i64 0,.int .i64 0,.int .i64 0,.int .i64 0,.string ⟨#[]⟩,.slice none 0 0] 125 (0,0))
 ow:w.heap[n0+1+1+1]? =some (.cells #[.int .i64 t,.int .i64 r,.int .i64 0] 108 (0,0))
 low:Below n0 w00 w
 le:n0≤w.heap.size
theorem OpF.below {n0:Nat} {w00 w w':World} {t r:Int} {dO:Array Value} (h:OpF n0 w00 t r dO w) (hB:Below w.heap.size w w'):OpF n0 w00 t r dO w':=
 ⟨(hB.block _ (lt_of_block h.st)).trans h.st,(hB.block _ (lt_of_block h.do_)).trans h.do_,(hB.block _ (lt_of_block h.rz)).trans h.rz,(hB.block _ (lt_of_block h.ow)).trans h.ow,h.low.trans (hB.mono h.le),Nat.le_trans h.le hB.size⟩
theorem opf_new (w00:World) (t r:Int) (dO:Array Value):OpF w00.heap.size w00 t r dO ((((w00.alloc (.cells #[.int .i64 t,.int .i64 r] 42)).alloc (.cells dO 86)).alloc (.cells #[.int .i64 0,.int .i64 0,.int .i64 0,.int .i64 0,.int .i64 0,.int .i64 0,.int .i64 0,.string ⟨#[]⟩,.bool false,.slice none 0 0,.int .i64 0,.int .i64 0,.int .i64 0,.int .i64 0,.int .i64 0,.int .i64 0,.string ⟨#[]⟩,.slice none 0 0] 125)).alloc (.cells #[.int .i64 t,.int .i64 r,.int .i64 0] 108)):=by
 have a1:=heap_alloc_new w00 (.cells #[.int .i64 t,.int .i64 r] 42)
 have a2:=heap_alloc_newC (w00.alloc (.cells #[.int .i64 t,.int .i64 r] 42)) (.cells dO 86) (n:=w00.heap.size+1) (by simp)
 have a3:=heap_alloc_newC ((w00.alloc (.cells #[.int .i64 t,.int .i64 r] 42)).alloc (.cells dO 86)) (.cells #[.int .i64 0,.int .i64 0,.int .i64 0,.int .i64 0,.int .i64 0,.int .i64 0,.int .i64 0,.string ⟨#[]⟩,.bool false,.slice none 0 0,.int .i64 0,.int .i64 0,.int .i64 0,.int .i64 0,.int .i64 0,.int .i64 0,.string ⟨#[]⟩,.slice none 0 0] 125) (n:=w00.heap.size+1+1) (by simp)
 have a4:=heap_alloc_newC (((w00.alloc (.cells #[.int .i64 t,.int .i64 r] 42)).alloc (.cells dO 86)).alloc (.cells #[.int .i64 0,.int .i64 0,.int .i64 0,.int .i64 0,.int .i64 0,.int .i64 0,.int .i64 0,.string ⟨#[]⟩,.bool false,.slice none 0 0,.int .i64 0,.int .i64 0,.int .i64 0,.int .i64 0,.int .i64 0,.int .i64 0,.string ⟨#[]⟩,.slice none 0 0] 125)) (.cells #[.int .i64 t,.int .i64 r,.int .i64 0] 108) (n:=w00.heap.size+1+1+1) (by simp)
 have sz:=fun (W:World) (o:Obj)=>show(W.alloc o).heap.size=W.heap.size+1 by simp
 exact⟨(Below.heap_alloc _ _ _ (by rw[sz,sz,sz];omega)).trans ((Below.heap_alloc _ _ _ (by rw[sz,sz];omega)).trans ((Below.heap_alloc _ _ _ (by rw[sz];omega)).trans a1)),(Below.heap_alloc _ _ _ (by rw[sz,sz,sz];omega)).trans ((Below.heap_alloc _ _ _ (by rw[sz,sz];omega)).trans a2),(Below.heap_alloc _ _ _ (by rw[sz,sz,sz];omega)).trans a3,a4,
  ((((Below.refl _ _).alloc (Nat.le_refl _) _).alloc (by rw[sz];omega) _).alloc (by rw[sz,sz];omega) _).alloc (by rw[sz,sz,sz];omega) _,by rw[sz,sz,sz,sz];omega⟩
theorem step_store_at {P:Program} {ops:Array Oper} {o:Oper} {a:Act} {w:World} {K:Act→World→Prop} {Q:Exit→Act→World→Prop} {E:Prop} (hgd:o.guard=none) (ty:TypeId) (x y:Operand) (ho:o.op= .store ty x y) (g:Nat) (T:TypeId) (c c':Array Value)
  (hx:a.eval x= .pointer (some ⟨g,0,none⟩)) (hy:a.eval y= .agg c') (hg:w.heap[g]? =some (.cells c T (0,0))) (hi:(P.info? ty).map (·.size)=some c'.size) (hs:c.size=c'.size) (h1:c'.toList.all (·.oneCell')=true)
  (h:K (a.put o.dst undef) (w.setRow g c')):if Region.wanted o (yielded ops a.tmps)=true then Oper.wp P o a w K Q else E:=by
 rw[if_pos (by simp[Region.wanted,hgd])]
 exact wp_store_at ty x y ho g T c c' hx hy hg hi hs h1 h
theorem results_cell_row2 {P:Program} {fn:Func} {p u:Tmp} {ty:TypeId} (h:fn.results=#[.cell p ty,.tmp u]) (tmps:Array Value) (w:World) (g:Nat) (t:TypeId) (cs:Array Value) (fr:Nat×Nat) (d:TypeDesc)
  (hp:tmps.getD p undef= .pointer (some ⟨g,0,none⟩)) (hg:w.heap[g]? =some (.cells cs t fr))
  (hu:P.underlying ty=some d) (hd:(match d with| .struct _| .array _ _=>true|_=>false)=true) (hi:(P.info? ty).map (·.size)=some cs.size):
  (results fn tmps).run P w= .ok (.tuple #[.agg cs,tmps.getD u undef]) w:=by
 have hp':tmps[p]?.getD undef= .pointer (some ⟨g,0,none⟩):=by simpa using hp
 simp[results,h,hp',asAddr,run_loadVar_row w g t ty cs fr d hg hu hd hi]
theorem name_le (q:Nat):(nmB q).size≤maxLen:=by rw[(nmB_ok q).2];unfold maxLen;omega
theorem text_le (q:Nat):(txB2 q).size≤maxLen:=by have:=(txB2_ok q).2.1;unfold maxLen;omega
theorem opin_nil {w:World} {S:Nat→Prop} {o:Gop} (h1:o.dots=[]) (h2:o.elems=[]) (h3:o.name.size≤maxLen) (h4:o.text.size≤maxLen):OpIn w S o ⟨none,0,none,0⟩:=by
 obtain⟨kind,node,parent,name,dir,dots,after,elem,text,elems⟩:=o
 have h1:dots=[]:=h1
 have h2:elems=[]:=h2
 subst h1;subst h2
 exact⟨RowG.zero,RowG.zero,Nat.le_refl _,Nat.le_refl _,Nat.zero_le _,Nat.zero_le _,h3,h4⟩
def OpQ (t r:Int) (w00:World) (e:Ending) (w':World):Prop:=∃(o:Gop) (x:OpX) (ok:Bool),e= .returned (.tuple #[.agg (opA o x),.bool ok])∧(ok=true→OpOk ⟨t,r⟩ o∧OpIn w' (fun b=>w00.heap.size≤b) o x)∧Below w00.heap.size w00 w'
theorem opin_dots {w:World} {S:Nat→Prop} {o:Gop} {eA:Option Addr} {ec:Nat} (h:RowF w S eA 2 stL .zero o.dots) (hc:o.dots.length≤ec) (hm:ec≤maxLen) (h2:o.elems=[]) (h3:o.name.size≤maxLen) (h4:o.text.size≤maxLen):OpIn w S o ⟨eA,ec,none,0⟩:=by
 obtain⟨kind,node,parent,name,dir,dots,after,elem,text,elems⟩:=o
 have h2:elems=[]:=h2
 subst h2
 exact⟨RowG.congr h (fun k j hk hj=>by rcases(show j=0∨j=1 by omega) with rfl|rfl<;>rfl),RowG.zero,hc,Nat.le_refl _,hm,Nat.zero_le _,h3,h4⟩
theorem opin_elems {w:World} {S:Nat→Prop} {B g ec k n:Nat} {E:List Gid} {node:Gid} (h:w.ownsRow B 108 3 (.slice (some ⟨g,0,none⟩) E.length ec) E.length (E.flatMap idL)) (hS:∀b,B≤b→S b) (hc:E.length≤ec) (hm:ec≤maxLen):
  OpIn w S ⟨4,node,.zero,⟨#[]⟩,false,[],.zero,.zero,⟨#[]⟩,(E.drop k).take n⟩ ⟨none,0,some ⟨g,k*3,none⟩,ec-k⟩:=by
 refine⟨RowG.zero,fun j hj=> ?_,Nat.le_refl _,?_,Nat.zero_le _,?_,Nat.zero_le _,Nat.zero_le _⟩
 ·have hj:j<((E.drop k).take n).length:=hj
  rw[List.length_take,List.length_drop] at hj
  obtain⟨g',e,hB,hg,hr⟩:=own_range (f:=idL) (fun _=>rfl) h (k:=k+j) (by omega) Gid.zero
  cases e
  have e2:((E.drop k).take n).getD j Gid.zero=E.getD (k+j) Gid.zero:=by
   rw[List.getD_eq_getElem?_getD,List.getD_eq_getElem?_getD,List.getElem?_take,if_pos (by omega),List.getElem?_drop]
  refine⟨g,k*3,rfl,hS _ hB,hg,fun i hi=> ?_⟩
  have e3:k*3+j*3+i=(k+j)*3+i:=by omega
  rw[e3]
  show w.cell? ⟨g,(k+j)*3+i,none⟩=some (if i=0 then .int .i64 (((E.drop k).take n).getD j Gid.zero).s.t else if i=1 then .int .i64 (((E.drop k).take n).getD j Gid.zero).s.r else .int .i64 (((E.drop k).take n).getD j Gid.zero).i)
  rw[e2]
  rcases(show i=0∨i=1∨i=2 by omega) with rfl|rfl|rfl
  ·exact hr 0 _ rfl
  ·exact hr 1 _ rfl
  ·exact hr 2 _ rfl
 ·show((E.drop k).take n).length≤ec-k
  rw[List.length_take,List.length_drop];omega
 ·show ec-k≤maxLen;omega
theorem gLs_len (ON:List Gst) (L:List (Grp×GrX)) (h1:∀p∈L,p.1.ops.length≤1) (h2:∀p∈L,∀o∈p.1.ops,o.dots.length≤16):∀n,n≤L.length→(upto (gLs ON L) n).length≤16*n
 |0,_=>Nat.zero_le _
 | n+1,hn=>by
  rw[upto_succ,List.length_append]
  have h3:=gLs_len ON L h1 h2 n (by omega)
  have hm:=getD_memF (show n<L.length by omega) gp0
  have h4:=h1 _ hm
  have h5:(gLs ON L n).length≤16:=by
   unfold gLs
   rcases(show(L.getD n gp0).1.ops.length=0∨(L.getD n gp0).1.ops.length=1 by omega) with e|e
   ·rw[e];exact Nat.zero_le _
   ·have h6:=h2 _ hm _ (getD_memF (show 0<(L.getD n gp0).1.ops.length by omega) (opO 0 .zero))
    rw[e,upto_succ]
    show([]++_:List Dt).length≤16
    unfold oLs
    split
    ·rw[List.nil_append,List.length_map];exact h6
    ·exact Nat.zero_le _
  omega
theorem lost_len (L:List (Grp×GrX)) {s:Gst} (h:KnG L s):(lostL L).length≤256:=by
 have h1:=gLs_len (onG L) L h.one (fun p hp o ho=>(h.sml p hp o ho).1) L.length (Nat.le_refl _)
 have h2:=h.len
 unfold lostL
 omega
theorem name_slice (q:Nat) (w:World):(Instr.slice 9 (Value.string ⟨#[97,98,99]⟩) (some (.int .u8 ((q:Int) % 3))) (some (.int .u8 ((q:Int) % 3+1))) none).run Tryz.prog w= .ok (.string (nmB q)) w:=by
 unfold nmB
 rcases(show q % 3=0∨q % 3=1∨q % 3=2 by omega) with e|e|e
 ·rw[e,show(q:Int) % 3=0 by omega];rfl
 ·rw[e,show(q:Int) % 3=1 by omega];rfl
 ·rw[e,show(q:Int) % 3=2 by omega];rfl
theorem text_slice (q:Nat) (w:World):(Instr.slice 9 (Value.string ⟨#[117,118,119,120,121,122]⟩) (some (.int .i64 ((q:Int) % 5))) (some (.int .i64 ((q:Int) % 5+1+(q:Int) % 2))) none).run Tryz.prog w= .ok (.string (txB2 q)) w:=by
 unfold txB2
 rcases(show q % 2=0∨q % 2=1 by omega) with e2|e2<;>rcases(show q % 5=0∨q % 5=1∨q % 5=2∨q % 5=3∨q % 5=4 by omega) with e|e|e|e|e
 ·rw[e,e2,show(q:Int) % 5=0 by omega,show(q:Int) % 2=0 by omega];rfl
 ·rw[e,e2,show(q:Int) % 5=1 by omega,show(q:Int) % 2=0 by omega];rfl
 ·rw[e,e2,show(q:Int) % 5=2 by omega,show(q:Int) % 2=0 by omega];rfl
 ·rw[e,e2,show(q:Int) % 5=3 by omega,show(q:Int) % 2=0 by omega];rfl
 ·rw[e,e2,show(q:Int) % 5=4 by omega,show(q:Int) % 2=0 by omega];rfl
 ·rw[e,e2,show(q:Int) % 5=0 by omega,show(q:Int) % 2=1 by omega];rfl
 ·rw[e,e2,show(q:Int) % 5=1 by omega,show(q:Int) % 2=1 by omega];rfl
 ·rw[e,e2,show(q:Int) % 5=2 by omega,show(q:Int) % 2=1 by omega];rfl
 ·rw[e,e2,show(q:Int) % 5=3 by omega,show(q:Int) % 2=1 by omega];rfl
 ·rw[e,e2,show(q:Int) % 5=4 by omega,show(q:Int) % 2=1 by omega];rfl
theorem opw_any (L:List (Grp×GrX)) (A:Option Addr) (c:Nat) (t r:Int) (q0 q1 q2 q3 q4:Nat) (see:Bool) (S:Nat→Prop) (w00:World) (h0:q0≤255) (h2:q2≤255) (h3:q3≤255) (h4:q4≤255) (hK:KnG L ⟨t,r⟩) (hR:RowGr w00 A L) (hG:∀p∈L,GrG w00 S p):
  Calls Tryz.prog 90 #[.slice A L.length c,.agg #[.int .i64 t,.int .i64 r],.agg #[.int .u8 (q0:Int),.int .u8 (q1:Int),.int .u8 (q2:Int),.int .u8 (q3:Int),.int .u8 (q4:Int),.bool see]] w00 fun e w'=>OpQ t r w00 e w':=by
 go_enter Tryz.func90,Tryz.ntmps90
 go_upto_region 2 with fail
 have hF0:OpF w00.heap.size w00 t r #[.int .u8 (q0:Int),.int .u8 (q1:Int),.int .u8 (q2:Int),.int .u8 (q3:Int),.int .u8 (q4:Int),.bool see] ((((w00.alloc (.cells #[.int .i64 t,.int .i64 r] 42)).alloc (.cells #[.int .u8 (q0:Int),.int .u8 (q1:Int),.int .u8 (q2:Int),.int .u8 (q3:Int),.int .u8 (q4:Int),.bool see] 86)).alloc (.cells #[.int .i64 0,.int .i64 0,.int .i64 0,.int .i64 0,.int .i64 0,.int .i64 0,.int .i64 0,.string ⟨#[]⟩,.bool false,.slice none 0 0,.int .i64 0,.int .i64 0,.int .i64 0,.int .i64 0,.int .i64 0,.int .i64 0,.string ⟨#[]⟩,.slice none 0 0] 125)).alloc (.cells #[.int .i64 t,.int .i64 r,.int .i64 0] 108)):=opf_new w00 t r _
 have HF:=hid hF0
 generalize hW:((((w00.alloc (.cells #[.int .i64 t,.int .i64 r] 42)).alloc (.cells #[.int .u8 (q0:Int),.int .u8 (q1:Int),.int .u8 (q2:Int),.int .u8 (q3:Int),.int .u8 (q4:Int),.bool see] 86)).alloc (.cells #[.int .i64 0,.int .i64 0,.int .i64 0,.int .i64 0,.int .i64 0,.int .i64 0,.int .i64 0,.string ⟨#[]⟩,.bool false,.slice none 0 0,.int .i64 0,.int .i64 0,.int .i64 0,.int .i64 0,.int .i64 0,.int .i64 0,.string ⟨#[]⟩,.slice none 0 0] 125)).alloc (.cells #[.int .i64 t,.int .i64 r,.int .i64 0] 108))=w at *
 clear hW hF0
 have hlow:=HF.out.low
 have hle:=HF.out.le
 have hR0:=hR.agr (Agr.below ((Below.refl w00.heap.size w00).trans hlow))
 have hG0:=fun p hp=>(hG p hp).agr (Agr.below hlow)
 have hlo:∀p∈L,p.1.ops.length≤1000:=fun p hp=>Nat.le_trans (hK.one p hp) (by decide)
 have hl16:=hK.len
 have HN:=hid (fun (d:Bool) W (hB:Below w.heap.size w W)=>nodes_any L A c d S W (by omega) hlo (hR0.below hB) (fun p hp=>(hG0 p hp).agr (Agr.below hB)))
 have HRG:=hid (And.intro hR0 hG0)
 obtain⟨D,hD⟩:∃D,D=nodesL true L:=⟨_,rfl⟩
 obtain⟨Fl,hFl⟩:∃D,D=nodesL false L:=⟨_,rfl⟩
 have HD:=hid (show(∀x∈D,known1 L x)∧D.length≤16 by rw[hD];exact⟨hK.nodes true,Nat.le_trans (nodesL_len _ _ hK.one) hK.len⟩)
 have HFl:=hid (show(∀x∈Fl,known1 L x)∧Fl.length≤16 by rw[hFl];exact⟨hK.nodes false,Nat.le_trans (nodesL_len _ _ hK.one) hK.len⟩)
 have HK:=hid hK
 have HN1:=hid (fun W (hB:Below w.heap.size w W)=>show Calls Tryz.prog 142 #[.slice A L.length c,.bool true] W fun e w'=>∃A' c',e= .returned (.slice A' D.length c')∧w'.ownsRow W.heap.size 108 3 (.slice A' D.length c') D.length (D.flatMap idL)∧Below W.heap.size W w' by rw[hD];exact HN.out true W hB)
 have HN2:=hid (fun W (hB:Below w.heap.size w W)=>show Calls Tryz.prog 142 #[.slice A L.length c,.bool false] W fun e w'=>∃A' c',e= .returned (.slice A' Fl.length c')∧w'.ownsRow W.heap.size 108 3 (.slice A' Fl.length c') Fl.length (Fl.flatMap idL)∧Below W.heap.size W w' by rw[hFl];exact HN.out false W hB)
 clear hlow hR0 hG0 hlo HN hD hFl hR hG
 go_upto_region 3 with(first
  |(go_at_call 142;refine(HN2.out w1 HB1.out).mono ?_;rintro e w2 ⟨fA,fc,rfl,hown2,hB2⟩;have HO2:=hid hown2;have HD2:=hid (HO1.out.kept (gby_below (r:=none) hB2) (Classical.em _));have HB2:=hid (HB1.out.trans (hB2.mono HB1.out.size));have HF2:=hid (HF.out.below HB2.out);clear hown2 hB2)
  |(go_at_call 142;refine(HN1.out w (Below.refl _ _)).mono ?_;rintro e w1 ⟨dA,dc,rfl,hown1,hB1⟩;have HO1:=hid hown1;have HB1:=hid hB1;clear hown1 hB1))
 clear HO1 HN1 HN2
 have d3:w2.cell? ⟨w00.heap.size+1,3,none⟩=some (.int .u8 (q3:Int)):=cell_of_row _ _ _ _ _ _ HF2.out.do_
 have n3:=name_slice q3 w2
 go_upto_region 4 with fail
 clear d3 n3
 have d2:w2.cell? ⟨w00.heap.size+1,2,none⟩=some (.int .u8 (q2:Int)):=cell_of_row _ _ _ _ _ _ HF2.out.do_
 obtain⟨f,hf⟩:∃x,x=pickD Fl q2:=⟨_,rfl⟩
 have HFI:=hid (show f= .zero∨known1 L f by rw[hf];exact KnG.pick HFl.out.1 q2)
 have hpf:Calls Tryz.prog 143 #[.slice fA Fl.length fc,.int .u8 (q2:Int)] w2 fun e w'=>e= .returned (.agg (idL f).toArray)∧Below w2.heap.size w2 w':=by rw[hf];exact pick_any Fl fA fc q2 _ w2 (by have:=HFl.out.2;omega) h2 (ownN_rowF (f:=idL) (z:= .zero) (fun _=>rfl) rfl HO2.out)
 obtain⟨⟨ft,fr⟩,fi⟩:=f
 have HPF:=hid (show Calls Tryz.prog 143 #[.slice fA Fl.length fc,.int .u8 (q2:Int)] w2 fun e w'=>e= .returned (.agg #[.int .i64 ft,.int .i64 fr,.int .i64 fi])∧Below w2.heap.size w2 w' from hpf)
 clear hf hpf
 go_upto_region 5 with(go_at_call 143;refine HPF.out.mono ?_;rintro e w3 ⟨rfl,hB3⟩;have hB3':=hB3;have HF3:=hid (HF2.out.below hB3);have HO3:=hid (HO2.out.kept (gby_below (r:=none) hB3) (Classical.em _));have HD3:=hid (HD2.out.kept (gby_below (r:=none) hB3) (Classical.em _));have HB3:=hid (HB2.out.trans (hB3.mono HB2.out.size));clear hB3)
 obtain⟨w4,hw4⟩:∃W,W=w3.alloc (.cells #[.int .i64 ft,.int .i64 fr,.int .i64 fi] 108):=⟨_,rfl⟩
 have hB4:Below w3.heap.size w3 w4:=by rw[hw4];exact(Below.refl _ _).alloc (Nat.le_refl _) _
 have HFB:=hid (show w4.heap[w3.heap.size]? =some (.cells #[.int .i64 ft,.int .i64 fr,.int .i64 fi] 108 (0,0)) by rw[hw4];exact heap_alloc_new _ _)
 rw[←hw4]
 have HF4:=hid (HF3.out.below hB4)
 have HO4:=hid (HO3.out.kept (gby_below (r:=none) hB4) (Classical.em _))
 have HD4:=hid (HD3.out.kept (gby_below (r:=none) hB4) (Classical.em _))
 have HB4:=hid (HB3.out.trans (hB4.mono HB3.out.size))
 have hfb:=lt_of_block HFB.out
 generalize w3.heap.size=fb at *
 clear d2 HPF HF2 HF3 HO2 HO3 HD2 HD3 HB2 HB3 hB3' hB4 hw4 HF
 obtain⟨p,hp⟩:∃x,x=pickD D q2:=⟨_,rfl⟩
 have HPI:=hid (show p= .zero∨known1 L p by rw[hp];exact KnG.pick HD.out.1 q2)
 have HPD0:∀W (hB:Below w4.heap.size w4 W),Calls Tryz.prog 143 #[.slice dA D.length dc,.int .u8 (q2:Int)] W fun e w'=>e= .returned (.agg (idL p).toArray)∧Below W.heap.size W w':=fun W hB=>by rw[hp];exact pick_any D dA dc q2 _ W (by have:=HD.out.2;omega) h2 ((ownN_rowF (f:=idL) (z:= .zero) (fun _=>rfl) rfl HD4.out).below hB)
 obtain⟨⟨pt,pr⟩,pi⟩:=p
 have HPD:=hid (fun W (hB:Below w4.heap.size w4 W)=>show Calls Tryz.prog 143 #[.slice dA D.length dc,.int .u8 (q2:Int)] W fun e w'=>e= .returned (.agg #[.int .i64 pt,.int .i64 pr,.int .i64 pi])∧Below W.heap.size W w' from HPD0 W hB)
 clear hp HPD0
 have d0:w4.cell? ⟨w00.heap.size+1,0,none⟩=some (.int .u8 (q0:Int)):=cell_of_row _ _ _ _ _ _ HF4.out.do_
 go_upto_region 6 with fail
 clear d0
 obtain⟨z,hz⟩:∃z,z=(q0:Int) % 8:=⟨_,rfl⟩
 rw[←hz]
 rcases(show z=0∨z=1∨z=2∨z=3∨(z=4∨z=5)∨(z=6∨z=7) by omega) with rfl|rfl|rfl|rfl|hz4|hz6
 ·clear hz
  go_upto_region 7 with fail
  refine wp_region_held (S:=fun W'=>W'.heap[(w00.heap.size+1+1+1)]? =some (.cells #[.int .i64 t,.int .i64 r,.int .i64 0] 108 (0,0))∧W'.heap[(w00.heap.size+1)]? =some (.cells #[.int .u8 (q0:Int),.int .u8 (q1:Int),.int .u8 (q2:Int),.int .u8 (q3:Int),.int .u8 (q4:Int),.bool see] 86 (0,0))) (by kernel_rfl) ?_
  try(change wpAnyH _ _ _ _ _ _ _ _ (World.drew _))
  refine wpAnyH_take (i:=0) (v:= .agg #[.int .i64 t,.int .i64 r,.int .i64 0]) rfl (by kernel_rfl) (by kernel_rfl) (by kernel_rfl) (fun _ _ _ h=>h) (yieldsIf_load_mid (by rfl) _ _ rfl (w00.heap.size+1+1+1) (0) rfl [.int .i64 t,.int .i64 r,.int .i64 0] _ (fun W' hW'=>range_mid (pre:=[]) (mid:=[.int .i64 t,.int .i64 r,.int .i64 0]) (post:=[]) (range_of_block (l:=[.int .i64 t,.int .i64 r,.int .i64 0]) (hW'.1))) Tryz.underlying108 rfl (by kernel_rfl)) ((show w4.drew.heap[_]? =_∧w4.drew.heap[_]? =_ from⟨HF4.out.ow,HF4.out.do_⟩)) ?_
  go_simp
  refine tk 1 (.slice dA D.length dc) ((show w4.drew.heap[_]? =_∧w4.drew.heap[_]? =_ from⟨HF4.out.ow,HF4.out.do_⟩)) ?_
  go_simp
  refine tk 2 (.pointer (some ⟨(w00.heap.size+1),2,none⟩)) ((show w4.drew.heap[_]? =_∧w4.drew.heap[_]? =_ from⟨HF4.out.ow,HF4.out.do_⟩)) ?_
  go_simp
  refine wpAnyH_take (i:=3) (v:= .int .u8 (q2:Int)) rfl (by kernel_rfl) (by kernel_rfl) (by kernel_rfl) (fun _ _ _ h=>h) (Or.inl ⟨by rfl,fun W' hW'=>by(have c_:W'.cell? ⟨(w00.heap.size+1),2,none⟩=some (.int .u8 (q2:Int)):=cell_of_row _ _ _ _ _ _ (hW'.2);go_simp)⟩) ((show w4.drew.heap[_]? =_∧w4.drew.heap[_]? =_ from⟨HF4.out.ow,HF4.out.do_⟩)) ?_
  go_simp
  refine tk 5 (.string (nmB q3)) ((show w4.drew.heap[_]? =_∧w4.drew.heap[_]? =_ from⟨HF4.out.ow,HF4.out.do_⟩)) ?_
  go_simp
  refine wpAnyH_ready (rs:=[4]) (by kernel_rfl) (by simp) ?_
  refine AllReadyH.cons rfl (fun K hK=> ?_) AllReadyH.nil
  go_simp
  go_at_call 143
  refine(HPD.out w4.drew ((Below.refl _ _).drew)).mono ?_
  rintro e w5 ⟨rfl,hB5⟩
  have HF5:=hid (HF4.out.below (show Below w4.heap.size w4 w5 from((Below.refl w4.heap.size w4).drew).trans hB5))
  clear hB5
  refine hK.out _ _ ((show w5.heap[_]? =_∧w5.heap[_]? =_ from⟨HF5.out.ow,HF5.out.do_⟩)) (fun _=> ?_)
  clear hK K
  refine tk 6 (.agg #[.int .i64 0,.int .i64 t,.int .i64 r,.int .i64 0,.int .i64 pt,.int .i64 pr,.int .i64 pi,.string (nmB q3),.bool true,.slice none 0 0,.int .i64 0,.int .i64 0,.int .i64 0,.int .i64 0,.int .i64 0,.int .i64 0,.string ⟨#[]⟩,.slice none 0 0]) ((show w5.heap[_]? =_∧w5.heap[_]? =_ from⟨HF5.out.ow,HF5.out.do_⟩)) ?_
  go_simp
  obtain⟨V,hV⟩:∃X,X=w5.setRow ((w00.heap.size+1+1)) #[.int .i64 0,.int .i64 t,.int .i64 r,.int .i64 0,.int .i64 pt,.int .i64 pr,.int .i64 pi,.string (nmB q3),.bool true,.slice none 0 0,.int .i64 0,.int .i64 0,.int .i64 0,.int .i64 0,.int .i64 0,.int .i64 0,.string ⟨#[]⟩,.slice none 0 0]:=⟨_,rfl⟩
  have HV:=hid hV
  have hgv:w5.grownBy V (some ((w00.heap.size+1+1))):=by rw[hV];exact gby_setRow _ _ _
  have HZV:=hid (show V.heap[(w00.heap.size+1+1)]? =some (.cells #[.int .i64 0,.int .i64 t,.int .i64 r,.int .i64 0,.int .i64 pt,.int .i64 pr,.int .i64 pi,.string (nmB q3),.bool true,.slice none 0 0,.int .i64 0,.int .i64 0,.int .i64 0,.int .i64 0,.int .i64 0,.int .i64 0,.string ⟨#[]⟩,.slice none 0 0] 125 (0,0)) by rw[hV];exact heap_setRow_same _ HF5.out.rz)
  have HDV:=hid ((hgv.block _ (lt_of_block HF5.out.do_) (fun e=>by injection e with e;omega)).trans HF5.out.do_)
  have HWV:=hid ((hgv.block _ (lt_of_block HF5.out.ow) (fun e=>by injection e with e;omega)).trans HF5.out.ow)
  have HLV:=hid (HF5.out.low.grown hgv HF5.out.le (fun b e=>by cases e;omega))
  have HAL:=hid (show(#[.int .i64 0,.int .i64 t,.int .i64 r,.int .i64 0,.int .i64 pt,.int .i64 pr,.int .i64 pi,.string (nmB q3),.bool true,.slice none 0 0,.int .i64 0,.int .i64 0,.int .i64 0,.int .i64 0,.int .i64 0,.int .i64 0,.string ⟨#[]⟩,.slice none 0 0]:Array Value).toList.all (·.oneCell')=true by rfl)
  clear hV hgv
  refine wpAnyH_ready (rs:=[7]) (by kernel_rfl) (by simp) ?_
  refine AllReadyH.cons rfl (fun K hK=> ?_) AllReadyH.nil
  refine step_store_at rfl _ _ _ rfl ((w00.heap.size+1+1)) 125 #[.int .i64 0,.int .i64 0,.int .i64 0,.int .i64 0,.int .i64 0,.int .i64 0,.int .i64 0,.string ⟨#[]⟩,.bool false,.slice none 0 0,.int .i64 0,.int .i64 0,.int .i64 0,.int .i64 0,.int .i64 0,.int .i64 0,.string ⟨#[]⟩,.slice none 0 0] #[.int .i64 0,.int .i64 t,.int .i64 r,.int .i64 0,.int .i64 pt,.int .i64 pr,.int .i64 pi,.string (nmB q3),.bool true,.slice none 0 0,.int .i64 0,.int .i64 0,.int .i64 0,.int .i64 0,.int .i64 0,.int .i64 0,.string ⟨#[]⟩,.slice none 0 0] rfl rfl HF5.out.rz (by kernel_rfl) rfl HAL.out ?_
  rw[←HV.out]
  refine hK.out _ _ ((show V.heap[_]? =_∧V.heap[_]? =_ from⟨HWV.out,HDV.out⟩)) (fun _=> ?_)
  clear hK K
  refine tk 8 (.bool true) ((show V.heap[_]? =_∧V.heap[_]? =_ from⟨HWV.out,HDV.out⟩)) ?_
  go_simp
  refine wpAnyH_done (by kernel_rfl) ?_ _
  go_simp
  go_wp2
  try simp only[Exit.inBlock,Exit.then]
  refine bodyPost_ret (results_cell_row2 rfl _ _ (w00.heap.size+1+1) _ _ (0,0) _ rfl HZV.out Tryz.underlying125 rfl (by kernel_rfl)) rfl ?_
  exact⟨⟨0,⟨⟨t,r⟩,0⟩,⟨⟨pt,pr⟩,pi⟩,nmB q3,true,[],.zero,.zero,⟨#[]⟩,[]⟩,⟨none,0,none,0⟩,true,rfl,(fun _=>⟨HK.out.make HPI.out q3 true,opin_nil rfl rfl (name_le q3) (Nat.zero_le _)⟩),HLV.out⟩
 ·clear hz
  go_upto_region 9 with fail
  refine wp_region_held (S:=fun W'=>W'.heap[(w00.heap.size+1+1+1)]? =some (.cells #[.int .i64 t,.int .i64 r,.int .i64 0] 108 (0,0))∧W'.heap[(w00.heap.size+1)]? =some (.cells #[.int .u8 (q0:Int),.int .u8 (q1:Int),.int .u8 (q2:Int),.int .u8 (q3:Int),.int .u8 (q4:Int),.bool see] 86 (0,0))) (by kernel_rfl) ?_
  try(change wpAnyH _ _ _ _ _ _ _ _ (World.drew _))
  refine wpAnyH_take (i:=0) (v:= .agg #[.int .i64 t,.int .i64 r,.int .i64 0]) rfl (by kernel_rfl) (by kernel_rfl) (by kernel_rfl) (fun _ _ _ h=>h) (yieldsIf_load_mid (by rfl) _ _ rfl (w00.heap.size+1+1+1) (0) rfl [.int .i64 t,.int .i64 r,.int .i64 0] _ (fun W' hW'=>range_mid (pre:=[]) (mid:=[.int .i64 t,.int .i64 r,.int .i64 0]) (post:=[]) (range_of_block (l:=[.int .i64 t,.int .i64 r,.int .i64 0]) (hW'.1))) Tryz.underlying108 rfl (by kernel_rfl)) ((show w4.drew.heap[_]? =_∧w4.drew.heap[_]? =_ from⟨HF4.out.ow,HF4.out.do_⟩)) ?_
  go_simp
  refine tk 1 (.slice dA D.length dc) ((show w4.drew.heap[_]? =_∧w4.drew.heap[_]? =_ from⟨HF4.out.ow,HF4.out.do_⟩)) ?_
  go_simp
  refine tk 2 (.pointer (some ⟨(w00.heap.size+1),2,none⟩)) ((show w4.drew.heap[_]? =_∧w4.drew.heap[_]? =_ from⟨HF4.out.ow,HF4.out.do_⟩)) ?_
  go_simp
  refine wpAnyH_take (i:=3) (v:= .int .u8 (q2:Int)) rfl (by kernel_rfl) (by kernel_rfl) (by kernel_rfl) (fun _ _ _ h=>h) (Or.inl ⟨by rfl,fun W' hW'=>by(have c_:W'.cell? ⟨(w00.heap.size+1),2,none⟩=some (.int .u8 (q2:Int)):=cell_of_row _ _ _ _ _ _ (hW'.2);go_simp)⟩) ((show w4.drew.heap[_]? =_∧w4.drew.heap[_]? =_ from⟨HF4.out.ow,HF4.out.do_⟩)) ?_
  go_simp
  refine tk 5 (.string (nmB q3)) ((show w4.drew.heap[_]? =_∧w4.drew.heap[_]? =_ from⟨HF4.out.ow,HF4.out.do_⟩)) ?_
  go_simp
  refine wpAnyH_ready (rs:=[4]) (by kernel_rfl) (by simp) ?_
  refine AllReadyH.cons rfl (fun K hK=> ?_) AllReadyH.nil
  go_simp
  go_at_call 143
  refine(HPD.out w4.drew ((Below.refl _ _).drew)).mono ?_
  rintro e w5 ⟨rfl,hB5⟩
  have HF5:=hid (HF4.out.below (show Below w4.heap.size w4 w5 from((Below.refl w4.heap.size w4).drew).trans hB5))
  clear hB5
  refine hK.out _ _ ((show w5.heap[_]? =_∧w5.heap[_]? =_ from⟨HF5.out.ow,HF5.out.do_⟩)) (fun _=> ?_)
  clear hK K
  refine tk 6 (.agg #[.int .i64 0,.int .i64 t,.int .i64 r,.int .i64 0,.int .i64 pt,.int .i64 pr,.int .i64 pi,.string (nmB q3),.bool false,.slice none 0 0,.int .i64 0,.int .i64 0,.int .i64 0,.int .i64 0,.int .i64 0,.int .i64 0,.string ⟨#[]⟩,.slice none 0 0]) ((show w5.heap[_]? =_∧w5.heap[_]? =_ from⟨HF5.out.ow,HF5.out.do_⟩)) ?_
  go_simp
  obtain⟨V,hV⟩:∃X,X=w5.setRow ((w00.heap.size+1+1)) #[.int .i64 0,.int .i64 t,.int .i64 r,.int .i64 0,.int .i64 pt,.int .i64 pr,.int .i64 pi,.string (nmB q3),.bool false,.slice none 0 0,.int .i64 0,.int .i64 0,.int .i64 0,.int .i64 0,.int .i64 0,.int .i64 0,.string ⟨#[]⟩,.slice none 0 0]:=⟨_,rfl⟩
  have HV:=hid hV
  have hgv:w5.grownBy V (some ((w00.heap.size+1+1))):=by rw[hV];exact gby_setRow _ _ _
  have HZV:=hid (show V.heap[(w00.heap.size+1+1)]? =some (.cells #[.int .i64 0,.int .i64 t,.int .i64 r,.int .i64 0,.int .i64 pt,.int .i64 pr,.int .i64 pi,.string (nmB q3),.bool false,.slice none 0 0,.int .i64 0,.int .i64 0,.int .i64 0,.int .i64 0,.int .i64 0,.int .i64 0,.string ⟨#[]⟩,.slice none 0 0] 125 (0,0)) by rw[hV];exact heap_setRow_same _ HF5.out.rz)
  have HDV:=hid ((hgv.block _ (lt_of_block HF5.out.do_) (fun e=>by injection e with e;omega)).trans HF5.out.do_)
  have HWV:=hid ((hgv.block _ (lt_of_block HF5.out.ow) (fun e=>by injection e with e;omega)).trans HF5.out.ow)
  have HLV:=hid (HF5.out.low.grown hgv HF5.out.le (fun b e=>by cases e;omega))
  have HAL:=hid (show(#[.int .i64 0,.int .i64 t,.int .i64 r,.int .i64 0,.int .i64 pt,.int .i64 pr,.int .i64 pi,.string (nmB q3),.bool false,.slice none 0 0,.int .i64 0,.int .i64 0,.int .i64 0,.int .i64 0,.int .i64 0,.int .i64 0,.string ⟨#[]⟩,.slice none 0 0]:Array Value).toList.all (·.oneCell')=true by rfl)
  clear hV hgv
  refine wpAnyH_ready (rs:=[7]) (by kernel_rfl) (by simp) ?_
  refine AllReadyH.cons rfl (fun K hK=> ?_) AllReadyH.nil
  refine step_store_at rfl _ _ _ rfl ((w00.heap.size+1+1)) 125 #[.int .i64 0,.int .i64 0,.int .i64 0,.int .i64 0,.int .i64 0,.int .i64 0,.int .i64 0,.string ⟨#[]⟩,.bool false,.slice none 0 0,.int .i64 0,.int .i64 0,.int .i64 0,.int .i64 0,.int .i64 0,.int .i64 0,.string ⟨#[]⟩,.slice none 0 0] #[.int .i64 0,.int .i64 t,.int .i64 r,.int .i64 0,.int .i64 pt,.int .i64 pr,.int .i64 pi,.string (nmB q3),.bool false,.slice none 0 0,.int .i64 0,.int .i64 0,.int .i64 0,.int .i64 0,.int .i64 0,.int .i64 0,.string ⟨#[]⟩,.slice none 0 0] rfl rfl HF5.out.rz (by kernel_rfl) rfl HAL.out ?_
  rw[←HV.out]
  refine hK.out _ _ ((show V.heap[_]? =_∧V.heap[_]? =_ from⟨HWV.out,HDV.out⟩)) (fun _=> ?_)
  clear hK K
  refine tk 8 (.bool true) ((show V.heap[_]? =_∧V.heap[_]? =_ from⟨HWV.out,HDV.out⟩)) ?_
  go_simp
  refine wpAnyH_done (by kernel_rfl) ?_ _
  go_simp
  go_wp2
  try simp only[Exit.inBlock,Exit.then]
  refine bodyPost_ret (results_cell_row2 rfl _ _ (w00.heap.size+1+1) _ _ (0,0) _ rfl HZV.out Tryz.underlying125 rfl (by kernel_rfl)) rfl ?_
  exact⟨⟨0,⟨⟨t,r⟩,0⟩,⟨⟨pt,pr⟩,pi⟩,nmB q3,false,[],.zero,.zero,⟨#[]⟩,[]⟩,⟨none,0,none,0⟩,true,rfl,(fun _=>⟨HK.out.make HPI.out q3 false,opin_nil rfl rfl (name_le q3) (Nat.zero_le _)⟩),HLV.out⟩
 ·clear hz
  obtain⟨J,hJ⟩:∃X,X=Fl++D:=⟨_,rfl⟩
  have HJ:=hid (show(∀x∈J,known1 L x)∧J.length≤32 by rw[hJ];exact⟨fun x hx=>(List.mem_append.1 hx).elim (HFl.out.1 x) (HD.out.1 x),by rw[List.length_append];have:=HFl.out.2;have:=HD.out.2;omega⟩)
  have HJN:=hid (fun W (hB:Below w4.heap.size w4 W)=>show Calls Tryz.prog 144 #[.slice fA Fl.length fc,.slice dA D.length dc] W fun e w'=>∃A' c',e= .returned (.slice A' J.length c')∧w'.ownsRow W.heap.size 108 3 (.slice A' J.length c') J.length (J.flatMap idL)∧Below W.heap.size W w' by rw[hJ];exact joined_any Fl D fA dA fc dc _ _ W (by have:=HFl.out.2;omega) (by have:=HD.out.2;omega) (HO4.out.kept (gby_below (r:=none) hB) (Classical.em _)) (HD4.out.kept (gby_below (r:=none) hB) (Classical.em _)))
  obtain⟨y,hy⟩:∃x,x=pickD J q4:=⟨_,rfl⟩
  have HYI:=hid (show y= .zero∨known1 L y by rw[hy];exact KnG.pick HJ.out.1 q4)
  have HPY0:∀W jA jc S' (hJ':RowF W S' jA 3 idL Gid.zero J),Calls Tryz.prog 143 #[.slice jA J.length jc,.int .u8 (q4:Int)] W fun e w'=>e= .returned (.agg (idL y).toArray)∧Below W.heap.size W w':=fun W jA jc S' hJ'=>by rw[hy];exact pick_any J jA jc q4 _ W (by have:=HJ.out.2;omega) h4 hJ'
  obtain⟨⟨yt,yr⟩,yi⟩:=y
  have HPY:=hid (fun W jA jc S' (hJ':RowF W S' jA 3 idL Gid.zero J)=>show Calls Tryz.prog 143 #[.slice jA J.length jc,.int .u8 (q4:Int)] W fun e w'=>e= .returned (.agg #[.int .i64 yt,.int .i64 yr,.int .i64 yi])∧Below W.heap.size W w' from HPY0 W jA jc S' hJ')
  clear hJ hy HPY0
  have HBS:=hid ((Below.refl w4.heap.size w4).drew)
  go_upto_region 11 with fail
  go_cut [13] (fun s wx=>∃yb:Nat,w4.heap.size≤yb∧s= .pointer (some ⟨yb,0,none⟩)∧Hid (wx.heap[yb]? =some (.cells #[.int .i64 yt,.int .i64 yr,.int .i64 yi] 108 (0,0)))∧Hid (Below w4.heap.size w4 wx))
  case first=>
   refine wp_region_held (S:=fun W'=>W'.heap[(w00.heap.size+1)]? =some (.cells #[.int .u8 (q0:Int),.int .u8 (q1:Int),.int .u8 (q2:Int),.int .u8 (q3:Int),.int .u8 (q4:Int),.bool see] 86 (0,0))) (by kernel_rfl) ?_
   try(change wpAnyH _ _ _ _ _ _ _ _ (World.drew _))
   refine tk 0 (.slice fA Fl.length fc) (((HF4.out.below HBS.out).do_)) ?_
   go_simp
   refine tk 1 (.slice dA D.length dc) (((HF4.out.below HBS.out).do_)) ?_
   go_simp
   refine tk 3 (.pointer (some ⟨(w00.heap.size+1),4,none⟩)) (((HF4.out.below HBS.out).do_)) ?_
   go_simp
   refine wpAnyH_take (i:=4) (v:= .int .u8 (q4:Int)) rfl (by kernel_rfl) (by kernel_rfl) (by kernel_rfl) (fun _ _ _ h=>h) (Or.inl ⟨by rfl,fun W' hW'=>by(have c_:W'.cell? ⟨(w00.heap.size+1),4,none⟩=some (.int .u8 (q4:Int)):=cell_of_row _ _ _ _ _ _ (hW');go_simp)⟩) (((HF4.out.below HBS.out).do_)) ?_
   go_simp
   refine wpAnyH_ready (rs:=[2,6]) (by kernel_rfl) (by simp) ?_
   refine AllReadyH.cons rfl (fun K hK=> ?_) (AllReadyH.cons rfl (fun K hK=> ?_) AllReadyH.nil)
   ·go_simp
    go_at_call 144
    refine(HJN.out _ HBS.out).mono ?_
    rintro e wj0 ⟨jA,jc,rfl,hown5,hB5⟩
    have HBj0:=hid (HBS.out.trans (hB5.mono HBS.out.size))
    have HJR:=hid (ownN_rowF (f:=idL) (z:=Gid.zero) (fun _=>rfl) rfl hown5)
    clear hown5 hB5
    refine hK.out _ _ (((HF4.out.below HBj0.out).do_)) (fun _=> ?_)
    clear hK K
    refine wpAnyH_ready (rs:=[5,6]) (by kernel_rfl) (by simp) ?_
    refine AllReadyH.cons rfl (fun K hK=> ?_) (AllReadyH.cons rfl (fun K hK=> ?_) AllReadyH.nil)
    ·go_simp
     go_at_call 143
     refine(HPY.out _ jA jc _ HJR.out).mono ?_
     rintro e wp1 ⟨rfl,hB5⟩
     have HBp1:=hid (HBj0.out.trans (hB5.mono HBj0.out.size))
     clear hB5
     refine hK.out _ _ (((HF4.out.below HBp1.out).do_)) (fun _=> ?_)
     clear hK K
     refine wpAnyH_ready (rs:=[6]) (by kernel_rfl) (by simp) ?_
     refine AllReadyH.cons rfl (fun K hK=> ?_) AllReadyH.nil
     go_simp
     obtain⟨wa2,hwa⟩:∃X,X=(wp1.alloc (.cells #[.int .i64 0,.int .i64 0,.int .i64 0] 108)):=⟨_,rfl⟩
     rw[←hwa]
     have HBa2:=hid (show Below w4.heap.size w4 wa2 by rw[hwa];exact HBp1.out.alloc HBp1.out.size _)
     have HY:=hid (show wa2.heap[wp1.heap.size]? =some (.cells #[.int .i64 0,.int .i64 0,.int .i64 0] 108 (0,0)) by rw[hwa];exact heap_alloc_new _ _)
     have hyb:w4.heap.size≤wp1.heap.size:=HBp1.out.size
     clear hwa
     generalize hgy:wp1.heap.size=yb at *
     clear hgy
     refine hK.out _ _ (((HF4.out.below HBa2.out).do_)) (fun _=> ?_)
     clear hK K
     obtain⟨V,hV⟩:∃X,X=wa2.setRow (yb) #[.int .i64 yt,.int .i64 yr,.int .i64 yi]:=⟨_,rfl⟩
     have HV:=hid hV
     have HYV:=hid (show V.heap[yb]? =some (.cells #[.int .i64 yt,.int .i64 yr,.int .i64 yi] 108 (0,0)) by rw[hV];exact heap_setRow_same _ HY.out)
     have HBV:=hid (show Below w4.heap.size w4 V by rw[hV];exact Below.setRow' HBa2.out hyb _)
     have HAL:=hid (show(#[.int .i64 yt,.int .i64 yr,.int .i64 yi]:Array Value).toList.all (·.oneCell')=true by rfl)
     clear hV
     refine wpAnyH_ready (rs:=[7]) (by kernel_rfl) (by simp) ?_
     refine AllReadyH.cons rfl (fun K hK=> ?_) AllReadyH.nil
     refine step_store_at rfl _ _ _ rfl (yb) 108 #[.int .i64 0,.int .i64 0,.int .i64 0] #[.int .i64 yt,.int .i64 yr,.int .i64 yi] rfl rfl HY.out (by kernel_rfl) rfl HAL.out ?_
     rw[←HV.out]
     refine hK.out _ _ (((HF4.out.below HBV.out).do_)) (fun _=> ?_)
     clear hK K
     refine wpAnyH_done (by kernel_rfl) ?_ _
     go_simp
     go_wp2
     go_meet
     exact⟨yb,hyb,rfl,HYV,HBV⟩
    ·go_simp
     obtain⟨wa1,hwa⟩:∃X,X=(wj0.alloc (.cells #[.int .i64 0,.int .i64 0,.int .i64 0] 108)):=⟨_,rfl⟩
     rw[←hwa]
     have HBa1:=hid (show Below w4.heap.size w4 wa1 by rw[hwa];exact HBj0.out.alloc HBj0.out.size _)
     have HY:=hid (show wa1.heap[wj0.heap.size]? =some (.cells #[.int .i64 0,.int .i64 0,.int .i64 0] 108 (0,0)) by rw[hwa];exact heap_alloc_new _ _)
     have hyb:w4.heap.size≤wj0.heap.size:=HBj0.out.size
     have HJR:=hid (HJR.out.below (show Below wj0.heap.size wj0 wa1 by rw[hwa];exact(Below.refl _ _).alloc (Nat.le_refl _) _))
     clear hwa
     generalize hgy:wj0.heap.size=yb at *
     clear hgy
     refine hK.out _ _ (((HF4.out.below HBa1.out).do_)) (fun _=> ?_)
     clear hK K
     refine wpAnyH_ready (rs:=[5]) (by kernel_rfl) (by simp) ?_
     refine AllReadyH.cons rfl (fun K hK=> ?_) AllReadyH.nil
     go_simp
     go_at_call 143
     refine(HPY.out _ jA jc _ HJR.out).mono ?_
     rintro e wp2 ⟨rfl,hB5⟩
     have HBp2:=hid (HBa1.out.trans (hB5.mono HBa1.out.size))
     have HY:=hid ((hB5.block _ (lt_of_block HY.out)).trans HY.out)
     clear hB5
     refine hK.out _ _ (((HF4.out.below HBp2.out).do_)) (fun _=> ?_)
     clear hK K
     obtain⟨V,hV⟩:∃X,X=wp2.setRow (yb) #[.int .i64 yt,.int .i64 yr,.int .i64 yi]:=⟨_,rfl⟩
     have HV:=hid hV
     have HYV:=hid (show V.heap[yb]? =some (.cells #[.int .i64 yt,.int .i64 yr,.int .i64 yi] 108 (0,0)) by rw[hV];exact heap_setRow_same _ HY.out)
     have HBV:=hid (show Below w4.heap.size w4 V by rw[hV];exact Below.setRow' HBp2.out hyb _)
     have HAL:=hid (show(#[.int .i64 yt,.int .i64 yr,.int .i64 yi]:Array Value).toList.all (·.oneCell')=true by rfl)
     clear hV
     refine wpAnyH_ready (rs:=[7]) (by kernel_rfl) (by simp) ?_
     refine AllReadyH.cons rfl (fun K hK=> ?_) AllReadyH.nil
     refine step_store_at rfl _ _ _ rfl (yb) 108 #[.int .i64 0,.int .i64 0,.int .i64 0] #[.int .i64 yt,.int .i64 yr,.int .i64 yi] rfl rfl HY.out (by kernel_rfl) rfl HAL.out ?_
     rw[←HV.out]
     refine hK.out _ _ (((HF4.out.below HBV.out).do_)) (fun _=> ?_)
     clear hK K
     refine wpAnyH_done (by kernel_rfl) ?_ _
     go_simp
     go_wp2
     go_meet
     exact⟨yb,hyb,rfl,HYV,HBV⟩
   ·go_simp
    obtain⟨wa0,hwa⟩:∃X,X=((w4.alloc (.cells #[.int .i64 0,.int .i64 0,.int .i64 0] 108)).drew):=⟨_,rfl⟩
    rw[←hwa]
    have HBa0:=hid (show Below w4.heap.size w4 wa0 by rw[hwa];exact((Below.refl _ _).alloc (Nat.le_refl _) _).drew)
    have HY:=hid (show wa0.heap[w4.heap.size]? =some (.cells #[.int .i64 0,.int .i64 0,.int .i64 0] 108 (0,0)) by rw[hwa];exact heap_alloc_new _ _)
    have hyb:w4.heap.size≤w4.heap.size:=Nat.le_refl _
    clear hwa
    refine hK.out _ _ (((HF4.out.below HBa0.out).do_)) (fun _=> ?_)
    clear hK K
    refine wpAnyH_ready (rs:=[2]) (by kernel_rfl) (by simp) ?_
    refine AllReadyH.cons rfl (fun K hK=> ?_) AllReadyH.nil
    go_simp
    go_at_call 144
    refine(HJN.out _ HBa0.out).mono ?_
    rintro e wj1 ⟨jA,jc,rfl,hown5,hB5⟩
    have HBj1:=hid (HBa0.out.trans (hB5.mono HBa0.out.size))
    have HJR:=hid (ownN_rowF (f:=idL) (z:=Gid.zero) (fun _=>rfl) rfl hown5)
    have HY:=hid ((hB5.block _ (lt_of_block HY.out)).trans HY.out)
    clear hown5 hB5
    refine hK.out _ _ (((HF4.out.below HBj1.out).do_)) (fun _=> ?_)
    clear hK K
    refine wpAnyH_ready (rs:=[5]) (by kernel_rfl) (by simp) ?_
    refine AllReadyH.cons rfl (fun K hK=> ?_) AllReadyH.nil
    go_simp
    go_at_call 143
    refine(HPY.out _ jA jc _ HJR.out).mono ?_
    rintro e wp2 ⟨rfl,hB5⟩
    have HBp2:=hid (HBj1.out.trans (hB5.mono HBj1.out.size))
    have HY:=hid ((hB5.block _ (lt_of_block HY.out)).trans HY.out)
    clear hB5
    refine hK.out _ _ (((HF4.out.below HBp2.out).do_)) (fun _=> ?_)
    clear hK K
    obtain⟨V,hV⟩:∃X,X=wp2.setRow (w4.heap.size) #[.int .i64 yt,.int .i64 yr,.int .i64 yi]:=⟨_,rfl⟩
    have HV:=hid hV
    have HYV:=hid (show V.heap[w4.heap.size]? =some (.cells #[.int .i64 yt,.int .i64 yr,.int .i64 yi] 108 (0,0)) by rw[hV];exact heap_setRow_same _ HY.out)
    have HBV:=hid (show Below w4.heap.size w4 V by rw[hV];exact Below.setRow' HBp2.out hyb _)
    have HAL:=hid (show(#[.int .i64 yt,.int .i64 yr,.int .i64 yi]:Array Value).toList.all (·.oneCell')=true by rfl)
    clear hV
    refine wpAnyH_ready (rs:=[7]) (by kernel_rfl) (by simp) ?_
    refine AllReadyH.cons rfl (fun K hK=> ?_) AllReadyH.nil
    refine step_store_at rfl _ _ _ rfl (w4.heap.size) 108 #[.int .i64 0,.int .i64 0,.int .i64 0] #[.int .i64 yt,.int .i64 yr,.int .i64 yi] rfl rfl HY.out (by kernel_rfl) rfl HAL.out ?_
    rw[←HV.out]
    refine hK.out _ _ (((HF4.out.below HBV.out).do_)) (fun _=> ?_)
    clear hK K
    refine wpAnyH_done (by kernel_rfl) ?_ _
    go_simp
    go_wp2
    go_meet
    exact⟨w4.heap.size,hyb,rfl,HYV,HBV⟩
  case rest=>
   obtain⟨yb,hyb,rfl,HYB,HB5⟩:=hcut
   have hn2:=lt_of_block HF4.out.rz
   generalize wc=w5 at *
   have HF5:=hid (HF4.out.below HB5.out)
   obtain⟨nb,hnb⟩:∃b,b=Gid.eqb ⟨⟨yt,yr⟩,yi⟩ ⟨⟨0,0⟩,0⟩:=⟨_,rfl⟩
   have qn:=ne_id yt yr yi 0 0 0 nb hnb.symm
   have HYK:=hid (show(!nb)=true→known1 L ⟨⟨yt,yr⟩,yi⟩ from fun h=>HYI.out.resolve_left (fun e=>by rw[e] at hnb;rw[hnb] at h;cases h))
   clear hnb
   go_upto_region 12 with fail
   refine wp_region_held (S:=fun W'=>W'.heap[yb]? =some (.cells #[.int .i64 yt,.int .i64 yr,.int .i64 yi] 108 (0,0))∧W'.heap[(w00.heap.size+1)]? =some (.cells #[.int .u8 (q0:Int),.int .u8 (q1:Int),.int .u8 (q2:Int),.int .u8 (q3:Int),.int .u8 (q4:Int),.bool see] 86 (0,0))) (by kernel_rfl) ?_
   try(change wpAnyH _ _ _ _ _ _ _ _ (World.drew _))
   refine wpAnyH_take (i:=0) (v:= .agg #[.int .i64 yt,.int .i64 yr,.int .i64 yi]) rfl (by kernel_rfl) (by kernel_rfl) (by kernel_rfl) (fun _ _ _ h=>h) (yieldsIf_load_mid (by rfl) _ _ rfl yb (0) rfl [.int .i64 yt,.int .i64 yr,.int .i64 yi] _ (fun W' hW'=>range_mid (pre:=[]) (mid:=[.int .i64 yt,.int .i64 yr,.int .i64 yi]) (post:=[]) (range_of_block (l:=[.int .i64 yt,.int .i64 yr,.int .i64 yi]) (hW'.1))) Tryz.underlying108 rfl (by kernel_rfl)) ((show w5.drew.heap[_]? =_∧w5.drew.heap[_]? =_ from⟨HYB.out,HF5.out.do_⟩)) ?_
   go_simp
   refine tk 1 (.slice dA D.length dc) ((show w5.drew.heap[_]? =_∧w5.drew.heap[_]? =_ from⟨HYB.out,HF5.out.do_⟩)) ?_
   go_simp
   refine tk 2 (.pointer (some ⟨(w00.heap.size+1),2,none⟩)) ((show w5.drew.heap[_]? =_∧w5.drew.heap[_]? =_ from⟨HYB.out,HF5.out.do_⟩)) ?_
   go_simp
   refine wpAnyH_take (i:=3) (v:= .int .u8 (q2:Int)) rfl (by kernel_rfl) (by kernel_rfl) (by kernel_rfl) (fun _ _ _ h=>h) (Or.inl ⟨by rfl,fun W' hW'=>by(have c_:W'.cell? ⟨(w00.heap.size+1),2,none⟩=some (.int .u8 (q2:Int)):=cell_of_row _ _ _ _ _ _ (hW'.2);go_simp)⟩) ((show w5.drew.heap[_]? =_∧w5.drew.heap[_]? =_ from⟨HYB.out,HF5.out.do_⟩)) ?_
   go_simp
   refine tk 5 (.string (nmB q3)) ((show w5.drew.heap[_]? =_∧w5.drew.heap[_]? =_ from⟨HYB.out,HF5.out.do_⟩)) ?_
   go_simp
   refine wpAnyH_take (i:=7) (v:= .agg #[.int .i64 yt,.int .i64 yr,.int .i64 yi]) rfl (by kernel_rfl) (by kernel_rfl) (by kernel_rfl) (fun _ _ _ h=>h) (yieldsIf_load_mid (by rfl) _ _ rfl yb (0) rfl [.int .i64 yt,.int .i64 yr,.int .i64 yi] _ (fun W' hW'=>range_mid (pre:=[]) (mid:=[.int .i64 yt,.int .i64 yr,.int .i64 yi]) (post:=[]) (range_of_block (l:=[.int .i64 yt,.int .i64 yr,.int .i64 yi]) (hW'.1))) Tryz.underlying108 rfl (by kernel_rfl)) ((show w5.drew.heap[_]? =_∧w5.drew.heap[_]? =_ from⟨HYB.out,HF5.out.do_⟩)) ?_
   go_simp
   refine tk 8 (.agg #[.int .i64 0,.int .i64 0,.int .i64 0]) ((show w5.drew.heap[_]? =_∧w5.drew.heap[_]? =_ from⟨HYB.out,HF5.out.do_⟩)) ?_
   go_simp
   refine tk 9 (.bool (!nb)) ((show w5.drew.heap[_]? =_∧w5.drew.heap[_]? =_ from⟨HYB.out,HF5.out.do_⟩)) ?_
   go_simp
   refine wpAnyH_ready (rs:=[4]) (by kernel_rfl) (by simp) ?_
   refine AllReadyH.cons rfl (fun K hK=> ?_) AllReadyH.nil
   go_simp
   go_at_call 143
   refine(HPD.out w5.drew (HB5.out.drew)).mono ?_
   rintro e w6 ⟨rfl,hB6⟩
   have hB6:=show Below w5.heap.size w5 w6 from((Below.refl w5.heap.size w5).drew).trans hB6
   have HF6:=hid (HF5.out.below hB6)
   have HY6:=hid ((hB6.block _ (lt_of_block HYB.out)).trans HYB.out)
   clear hB6
   refine hK.out _ _ ((show w6.heap[_]? =_∧w6.heap[_]? =_ from⟨HY6.out,HF6.out.do_⟩)) (fun _=> ?_)
   clear hK K
   refine tk 6 (.agg #[.int .i64 1,.int .i64 yt,.int .i64 yr,.int .i64 yi,.int .i64 pt,.int .i64 pr,.int .i64 pi,.string (nmB q3),.bool false,.slice none 0 0,.int .i64 0,.int .i64 0,.int .i64 0,.int .i64 0,.int .i64 0,.int .i64 0,.string ⟨#[]⟩,.slice none 0 0]) ((show w6.heap[_]? =_∧w6.heap[_]? =_ from⟨HY6.out,HF6.out.do_⟩)) ?_
   go_simp
   obtain⟨V,hV⟩:∃X,X=w6.setRow ((w00.heap.size+1+1)) #[.int .i64 1,.int .i64 yt,.int .i64 yr,.int .i64 yi,.int .i64 pt,.int .i64 pr,.int .i64 pi,.string (nmB q3),.bool false,.slice none 0 0,.int .i64 0,.int .i64 0,.int .i64 0,.int .i64 0,.int .i64 0,.int .i64 0,.string ⟨#[]⟩,.slice none 0 0]:=⟨_,rfl⟩
   have HV:=hid hV
   have hgv:w6.grownBy V (some ((w00.heap.size+1+1))):=by rw[hV];exact gby_setRow _ _ _
   have HZV:=hid (show V.heap[(w00.heap.size+1+1)]? =some (.cells #[.int .i64 1,.int .i64 yt,.int .i64 yr,.int .i64 yi,.int .i64 pt,.int .i64 pr,.int .i64 pi,.string (nmB q3),.bool false,.slice none 0 0,.int .i64 0,.int .i64 0,.int .i64 0,.int .i64 0,.int .i64 0,.int .i64 0,.string ⟨#[]⟩,.slice none 0 0] 125 (0,0)) by rw[hV];exact heap_setRow_same _ HF6.out.rz)
   have HDV:=hid ((hgv.block _ (lt_of_block HF6.out.do_) (fun e=>by injection e with e;omega)).trans HF6.out.do_)
   have HWV:=hid ((hgv.block _ (lt_of_block HF6.out.ow) (fun e=>by injection e with e;omega)).trans HF6.out.ow)
   have HLV:=hid (HF6.out.low.grown hgv HF6.out.le (fun b e=>by cases e;omega))
   have HYV:=hid ((hgv.block _ (lt_of_block HY6.out) (fun e=>by injection e with e;omega)).trans HY6.out)
   have HAL:=hid (show(#[.int .i64 1,.int .i64 yt,.int .i64 yr,.int .i64 yi,.int .i64 pt,.int .i64 pr,.int .i64 pi,.string (nmB q3),.bool false,.slice none 0 0,.int .i64 0,.int .i64 0,.int .i64 0,.int .i64 0,.int .i64 0,.int .i64 0,.string ⟨#[]⟩,.slice none 0 0]:Array Value).toList.all (·.oneCell')=true by rfl)
   clear hV hgv
   refine wpAnyH_ready (rs:=[10]) (by kernel_rfl) (by simp) ?_
   refine AllReadyH.cons rfl (fun K hK=> ?_) AllReadyH.nil
   refine step_store_at rfl _ _ _ rfl ((w00.heap.size+1+1)) 125 #[.int .i64 0,.int .i64 0,.int .i64 0,.int .i64 0,.int .i64 0,.int .i64 0,.int .i64 0,.string ⟨#[]⟩,.bool false,.slice none 0 0,.int .i64 0,.int .i64 0,.int .i64 0,.int .i64 0,.int .i64 0,.int .i64 0,.string ⟨#[]⟩,.slice none 0 0] #[.int .i64 1,.int .i64 yt,.int .i64 yr,.int .i64 yi,.int .i64 pt,.int .i64 pr,.int .i64 pi,.string (nmB q3),.bool false,.slice none 0 0,.int .i64 0,.int .i64 0,.int .i64 0,.int .i64 0,.int .i64 0,.int .i64 0,.string ⟨#[]⟩,.slice none 0 0] rfl rfl HF6.out.rz (by kernel_rfl) rfl HAL.out ?_
   rw[←HV.out]
   refine hK.out _ _ ((show V.heap[_]? =_∧V.heap[_]? =_ from⟨HYV.out,HDV.out⟩)) (fun _=> ?_)
   clear hK K
   refine tk 11 (.bool (!nb)) ((show V.heap[_]? =_∧V.heap[_]? =_ from⟨HYV.out,HDV.out⟩)) ?_
   go_simp
   refine wpAnyH_done (by kernel_rfl) ?_ _
   go_simp
   go_wp2
   try simp only[Exit.inBlock,Exit.then]
   refine bodyPost_ret (results_cell_row2 rfl _ _ (w00.heap.size+1+1) _ _ (0,0) _ rfl HZV.out Tryz.underlying125 rfl (by kernel_rfl)) rfl ?_
   exact⟨⟨1,⟨⟨yt,yr⟩,yi⟩,⟨⟨pt,pr⟩,pi⟩,nmB q3,false,[],.zero,.zero,⟨#[]⟩,[]⟩,⟨none,0,none,0⟩,(!nb),rfl,(fun hok=>⟨HK.out.move HPI.out (HYK.out hok) q3,opin_nil rfl rfl (name_le q3) (Nat.zero_le _)⟩),HLV.out⟩
 ·clear hz
  obtain⟨J,hJ⟩:∃X,X=Fl++D:=⟨_,rfl⟩
  have HJ:=hid (show(∀x∈J,known1 L x)∧J.length≤32 by rw[hJ];exact⟨fun x hx=>(List.mem_append.1 hx).elim (HFl.out.1 x) (HD.out.1 x),by rw[List.length_append];have:=HFl.out.2;have:=HD.out.2;omega⟩)
  have HJN:=hid (fun W (hB:Below w4.heap.size w4 W)=>show Calls Tryz.prog 144 #[.slice fA Fl.length fc,.slice dA D.length dc] W fun e w'=>∃A' c',e= .returned (.slice A' J.length c')∧w'.ownsRow W.heap.size 108 3 (.slice A' J.length c') J.length (J.flatMap idL)∧Below W.heap.size W w' by rw[hJ];exact joined_any Fl D fA dA fc dc _ _ W (by have:=HFl.out.2;omega) (by have:=HD.out.2;omega) (HO4.out.kept (gby_below (r:=none) hB) (Classical.em _)) (HD4.out.kept (gby_below (r:=none) hB) (Classical.em _)))
  obtain⟨y,hy⟩:∃x,x=pickD J q4:=⟨_,rfl⟩
  have HYI:=hid (show y= .zero∨known1 L y by rw[hy];exact KnG.pick HJ.out.1 q4)
  have HPY0:∀W jA jc S' (hJ':RowF W S' jA 3 idL Gid.zero J),Calls Tryz.prog 143 #[.slice jA J.length jc,.int .u8 (q4:Int)] W fun e w'=>e= .returned (.agg (idL y).toArray)∧Below W.heap.size W w':=fun W jA jc S' hJ'=>by rw[hy];exact pick_any J jA jc q4 _ W (by have:=HJ.out.2;omega) h4 hJ'
  obtain⟨⟨yt,yr⟩,yi⟩:=y
  have HPY:=hid (fun W jA jc S' (hJ':RowF W S' jA 3 idL Gid.zero J)=>show Calls Tryz.prog 143 #[.slice jA J.length jc,.int .u8 (q4:Int)] W fun e w'=>e= .returned (.agg #[.int .i64 yt,.int .i64 yr,.int .i64 yi])∧Below W.heap.size W w' from HPY0 W jA jc S' hJ')
  clear hJ hy HPY0
  have HBS:=hid ((Below.refl w4.heap.size w4).drew)
  go_upto_region 14 with fail
  go_cut [14] (fun s wx=>∃yb:Nat,w4.heap.size≤yb∧s= .pointer (some ⟨yb,0,none⟩)∧Hid (wx.heap[yb]? =some (.cells #[.int .i64 yt,.int .i64 yr,.int .i64 yi] 108 (0,0)))∧Hid (Below w4.heap.size w4 wx))
  case first=>
   refine wp_region_held (S:=fun W'=>W'.heap[(w00.heap.size+1)]? =some (.cells #[.int .u8 (q0:Int),.int .u8 (q1:Int),.int .u8 (q2:Int),.int .u8 (q3:Int),.int .u8 (q4:Int),.bool see] 86 (0,0))) (by kernel_rfl) ?_
   try(change wpAnyH _ _ _ _ _ _ _ _ (World.drew _))
   refine tk 0 (.slice fA Fl.length fc) (((HF4.out.below HBS.out).do_)) ?_
   go_simp
   refine tk 1 (.slice dA D.length dc) (((HF4.out.below HBS.out).do_)) ?_
   go_simp
   refine tk 3 (.pointer (some ⟨(w00.heap.size+1),4,none⟩)) (((HF4.out.below HBS.out).do_)) ?_
   go_simp
   refine wpAnyH_take (i:=4) (v:= .int .u8 (q4:Int)) rfl (by kernel_rfl) (by kernel_rfl) (by kernel_rfl) (fun _ _ _ h=>h) (Or.inl ⟨by rfl,fun W' hW'=>by(have c_:W'.cell? ⟨(w00.heap.size+1),4,none⟩=some (.int .u8 (q4:Int)):=cell_of_row _ _ _ _ _ _ (hW');go_simp)⟩) (((HF4.out.below HBS.out).do_)) ?_
   go_simp
   refine wpAnyH_ready (rs:=[2,6]) (by kernel_rfl) (by simp) ?_
   refine AllReadyH.cons rfl (fun K hK=> ?_) (AllReadyH.cons rfl (fun K hK=> ?_) AllReadyH.nil)
   ·go_simp
    go_at_call 144
    refine(HJN.out _ HBS.out).mono ?_
    rintro e wj0 ⟨jA,jc,rfl,hown5,hB5⟩
    have HBj0:=hid (HBS.out.trans (hB5.mono HBS.out.size))
    have HJR:=hid (ownN_rowF (f:=idL) (z:=Gid.zero) (fun _=>rfl) rfl hown5)
    clear hown5 hB5
    refine hK.out _ _ (((HF4.out.below HBj0.out).do_)) (fun _=> ?_)
    clear hK K
    refine wpAnyH_ready (rs:=[5,6]) (by kernel_rfl) (by simp) ?_
    refine AllReadyH.cons rfl (fun K hK=> ?_) (AllReadyH.cons rfl (fun K hK=> ?_) AllReadyH.nil)
    ·go_simp
     go_at_call 143
     refine(HPY.out _ jA jc _ HJR.out).mono ?_
     rintro e wp1 ⟨rfl,hB5⟩
     have HBp1:=hid (HBj0.out.trans (hB5.mono HBj0.out.size))
     clear hB5
     refine hK.out _ _ (((HF4.out.below HBp1.out).do_)) (fun _=> ?_)
     clear hK K
     refine wpAnyH_ready (rs:=[6]) (by kernel_rfl) (by simp) ?_
     refine AllReadyH.cons rfl (fun K hK=> ?_) AllReadyH.nil
     go_simp
     obtain⟨wa2,hwa⟩:∃X,X=(wp1.alloc (.cells #[.int .i64 0,.int .i64 0,.int .i64 0] 108)):=⟨_,rfl⟩
     rw[←hwa]
     have HBa2:=hid (show Below w4.heap.size w4 wa2 by rw[hwa];exact HBp1.out.alloc HBp1.out.size _)
     have HY:=hid (show wa2.heap[wp1.heap.size]? =some (.cells #[.int .i64 0,.int .i64 0,.int .i64 0] 108 (0,0)) by rw[hwa];exact heap_alloc_new _ _)
     have hyb:w4.heap.size≤wp1.heap.size:=HBp1.out.size
     clear hwa
     generalize hgy:wp1.heap.size=yb at *
     clear hgy
     refine hK.out _ _ (((HF4.out.below HBa2.out).do_)) (fun _=> ?_)
     clear hK K
     obtain⟨V,hV⟩:∃X,X=wa2.setRow (yb) #[.int .i64 yt,.int .i64 yr,.int .i64 yi]:=⟨_,rfl⟩
     have HV:=hid hV
     have HYV:=hid (show V.heap[yb]? =some (.cells #[.int .i64 yt,.int .i64 yr,.int .i64 yi] 108 (0,0)) by rw[hV];exact heap_setRow_same _ HY.out)
     have HBV:=hid (show Below w4.heap.size w4 V by rw[hV];exact Below.setRow' HBa2.out hyb _)
     have HAL:=hid (show(#[.int .i64 yt,.int .i64 yr,.int .i64 yi]:Array Value).toList.all (·.oneCell')=true by rfl)
     clear hV
     refine wpAnyH_ready (rs:=[7]) (by kernel_rfl) (by simp) ?_
     refine AllReadyH.cons rfl (fun K hK=> ?_) AllReadyH.nil
     refine step_store_at rfl _ _ _ rfl (yb) 108 #[.int .i64 0,.int .i64 0,.int .i64 0] #[.int .i64 yt,.int .i64 yr,.int .i64 yi] rfl rfl HY.out (by kernel_rfl) rfl HAL.out ?_
     rw[←HV.out]
     refine hK.out _ _ (((HF4.out.below HBV.out).do_)) (fun _=> ?_)
     clear hK K
     refine wpAnyH_done (by kernel_rfl) ?_ _
     go_simp
     go_wp2
     go_meet
     exact⟨yb,hyb,rfl,HYV,HBV⟩
    ·go_simp
     obtain⟨wa1,hwa⟩:∃X,X=(wj0.alloc (.cells #[.int .i64 0,.int .i64 0,.int .i64 0] 108)):=⟨_,rfl⟩
     rw[←hwa]
     have HBa1:=hid (show Below w4.heap.size w4 wa1 by rw[hwa];exact HBj0.out.alloc HBj0.out.size _)
     have HY:=hid (show wa1.heap[wj0.heap.size]? =some (.cells #[.int .i64 0,.int .i64 0,.int .i64 0] 108 (0,0)) by rw[hwa];exact heap_alloc_new _ _)
     have hyb:w4.heap.size≤wj0.heap.size:=HBj0.out.size
     have HJR:=hid (HJR.out.below (show Below wj0.heap.size wj0 wa1 by rw[hwa];exact(Below.refl _ _).alloc (Nat.le_refl _) _))
     clear hwa
     generalize hgy:wj0.heap.size=yb at *
     clear hgy
     refine hK.out _ _ (((HF4.out.below HBa1.out).do_)) (fun _=> ?_)
     clear hK K
     refine wpAnyH_ready (rs:=[5]) (by kernel_rfl) (by simp) ?_
     refine AllReadyH.cons rfl (fun K hK=> ?_) AllReadyH.nil
     go_simp
     go_at_call 143
     refine(HPY.out _ jA jc _ HJR.out).mono ?_
     rintro e wp2 ⟨rfl,hB5⟩
     have HBp2:=hid (HBa1.out.trans (hB5.mono HBa1.out.size))
     have HY:=hid ((hB5.block _ (lt_of_block HY.out)).trans HY.out)
     clear hB5
     refine hK.out _ _ (((HF4.out.below HBp2.out).do_)) (fun _=> ?_)
     clear hK K
     obtain⟨V,hV⟩:∃X,X=wp2.setRow (yb) #[.int .i64 yt,.int .i64 yr,.int .i64 yi]:=⟨_,rfl⟩
     have HV:=hid hV
     have HYV:=hid (show V.heap[yb]? =some (.cells #[.int .i64 yt,.int .i64 yr,.int .i64 yi] 108 (0,0)) by rw[hV];exact heap_setRow_same _ HY.out)
     have HBV:=hid (show Below w4.heap.size w4 V by rw[hV];exact Below.setRow' HBp2.out hyb _)
     have HAL:=hid (show(#[.int .i64 yt,.int .i64 yr,.int .i64 yi]:Array Value).toList.all (·.oneCell')=true by rfl)
     clear hV
     refine wpAnyH_ready (rs:=[7]) (by kernel_rfl) (by simp) ?_
     refine AllReadyH.cons rfl (fun K hK=> ?_) AllReadyH.nil
     refine step_store_at rfl _ _ _ rfl (yb) 108 #[.int .i64 0,.int .i64 0,.int .i64 0] #[.int .i64 yt,.int .i64 yr,.int .i64 yi] rfl rfl HY.out (by kernel_rfl) rfl HAL.out ?_
     rw[←HV.out]
     refine hK.out _ _ (((HF4.out.below HBV.out).do_)) (fun _=> ?_)
     clear hK K
     refine wpAnyH_done (by kernel_rfl) ?_ _
     go_simp
     go_wp2
     go_meet
     exact⟨yb,hyb,rfl,HYV,HBV⟩
   ·go_simp
    obtain⟨wa0,hwa⟩:∃X,X=((w4.alloc (.cells #[.int .i64 0,.int .i64 0,.int .i64 0] 108)).drew):=⟨_,rfl⟩
    rw[←hwa]
    have HBa0:=hid (show Below w4.heap.size w4 wa0 by rw[hwa];exact((Below.refl _ _).alloc (Nat.le_refl _) _).drew)
    have HY:=hid (show wa0.heap[w4.heap.size]? =some (.cells #[.int .i64 0,.int .i64 0,.int .i64 0] 108 (0,0)) by rw[hwa];exact heap_alloc_new _ _)
    have hyb:w4.heap.size≤w4.heap.size:=Nat.le_refl _
    clear hwa
    refine hK.out _ _ (((HF4.out.below HBa0.out).do_)) (fun _=> ?_)
    clear hK K
    refine wpAnyH_ready (rs:=[2]) (by kernel_rfl) (by simp) ?_
    refine AllReadyH.cons rfl (fun K hK=> ?_) AllReadyH.nil
    go_simp
    go_at_call 144
    refine(HJN.out _ HBa0.out).mono ?_
    rintro e wj1 ⟨jA,jc,rfl,hown5,hB5⟩
    have HBj1:=hid (HBa0.out.trans (hB5.mono HBa0.out.size))
    have HJR:=hid (ownN_rowF (f:=idL) (z:=Gid.zero) (fun _=>rfl) rfl hown5)
    have HY:=hid ((hB5.block _ (lt_of_block HY.out)).trans HY.out)
    clear hown5 hB5
    refine hK.out _ _ (((HF4.out.below HBj1.out).do_)) (fun _=> ?_)
    clear hK K
    refine wpAnyH_ready (rs:=[5]) (by kernel_rfl) (by simp) ?_
    refine AllReadyH.cons rfl (fun K hK=> ?_) AllReadyH.nil
    go_simp
    go_at_call 143
    refine(HPY.out _ jA jc _ HJR.out).mono ?_
    rintro e wp2 ⟨rfl,hB5⟩
    have HBp2:=hid (HBj1.out.trans (hB5.mono HBj1.out.size))
    have HY:=hid ((hB5.block _ (lt_of_block HY.out)).trans HY.out)
    clear hB5
    refine hK.out _ _ (((HF4.out.below HBp2.out).do_)) (fun _=> ?_)
    clear hK K
    obtain⟨V,hV⟩:∃X,X=wp2.setRow (w4.heap.size) #[.int .i64 yt,.int .i64 yr,.int .i64 yi]:=⟨_,rfl⟩
    have HV:=hid hV
    have HYV:=hid (show V.heap[w4.heap.size]? =some (.cells #[.int .i64 yt,.int .i64 yr,.int .i64 yi] 108 (0,0)) by rw[hV];exact heap_setRow_same _ HY.out)
    have HBV:=hid (show Below w4.heap.size w4 V by rw[hV];exact Below.setRow' HBp2.out hyb _)
    have HAL:=hid (show(#[.int .i64 yt,.int .i64 yr,.int .i64 yi]:Array Value).toList.all (·.oneCell')=true by rfl)
    clear hV
    refine wpAnyH_ready (rs:=[7]) (by kernel_rfl) (by simp) ?_
    refine AllReadyH.cons rfl (fun K hK=> ?_) AllReadyH.nil
    refine step_store_at rfl _ _ _ rfl (w4.heap.size) 108 #[.int .i64 0,.int .i64 0,.int .i64 0] #[.int .i64 yt,.int .i64 yr,.int .i64 yi] rfl rfl HY.out (by kernel_rfl) rfl HAL.out ?_
    rw[←HV.out]
    refine hK.out _ _ (((HF4.out.below HBV.out).do_)) (fun _=> ?_)
    clear hK K
    refine wpAnyH_done (by kernel_rfl) ?_ _
    go_simp
    go_wp2
    go_meet
    exact⟨w4.heap.size,hyb,rfl,HYV,HBV⟩
  case rest=>
   obtain⟨yb,hyb,rfl,HYB,HB5⟩:=hcut
   have hn2:=lt_of_block HF4.out.rz
   generalize wc=w5 at *
   have HF5:=hid (HF4.out.below HB5.out)
   obtain⟨nb,hnb⟩:∃b,b=Gid.eqb ⟨⟨yt,yr⟩,yi⟩ ⟨⟨0,0⟩,0⟩:=⟨_,rfl⟩
   have qn:=ne_id yt yr yi 0 0 0 nb hnb.symm
   have HYK:=hid (show(!nb)=true→known1 L ⟨⟨yt,yr⟩,yi⟩ from fun h=>HYI.out.resolve_left (fun e=>by rw[e] at hnb;rw[hnb] at h;cases h))
   clear hnb
   obtain⟨HVL,hHV⟩:∃X,X=haveL L:=⟨_,rfl⟩
   obtain⟨LSL,hLS⟩:∃X,X=lostL L:=⟨_,rfl⟩
   obtain⟨ITL,hIT⟩:∃X,X=itemsG L:=⟨_,rfl⟩
   have HOF:=hid (show Calls Tryz.prog 57 #[.slice A L.length c] w5 fun e w'=>Of16Q HVL LSL ITL w5 e w' by rw[hHV,hLS,hIT];exact of16_any L A c S w5 (by omega) (fun p hp=>Nat.le_trans (HK.out.one p hp) (by decide)) (fun p hp o ho=>⟨Nat.le_trans (HK.out.sml p hp o ho).1 (by decide),Nat.le_trans (HK.out.sml p hp o ho).2 (by decide)⟩) (HRG.out.1.below (HB4.out.trans (HB5.out.mono HB4.out.size))) (fun p hp=>(HRG.out.2 p hp).agr (Agr.below (HB4.out.trans (HB5.out.mono HB4.out.size)))) HK.out.chk HK.out.nd)
   have hhl:HVL.length≤1000:=by rw[hHV];have h9:=gHv_len (onG L) L HK.out.one L.length (Nat.le_refl _);unfold haveL;omega
   have HHV:=hid hHV
   have HLS:=hid hLS
   clear hHV hLS hIT
   go_upto_region 16 with(go_at_call 57;refine HOF.out.mono ?_;rintro e w6 ⟨oA,pA,hA,lA,iA,on,oc,pn,pc,hc,lc,ic,rfl,hH6,hL6,-,hB6⟩;have HH6:=hid hH6;have HL6:=hid hL6;have HB6:=hid hB6;clear hH6 hL6 hB6)
   obtain⟨w7,hw7⟩:∃W,W=w6.alloc (.cells #[.slice oA on oc,.slice pA pn pc,.slice hA HVL.length hc,.slice lA LSL.length lc,.slice iA ITL.length ic] 105):=⟨_,rfl⟩
   rw[←hw7]
   have HSB:=hid (show w7.heap[w6.heap.size]? =some (.cells #[.slice oA on oc,.slice pA pn pc,.slice hA HVL.length hc,.slice lA LSL.length lc,.slice iA ITL.length ic] 105 (0,0)) by rw[hw7];exact heap_alloc_new _ _)
   have hB7:Below w6.heap.size w6 w7:=by rw[hw7];exact(Below.refl _ _).alloc (Nat.le_refl _) _
   have HB7:=hid (HB6.out.trans (hB7.mono HB6.out.size))
   have HF7:=hid (HF5.out.below HB7.out)
   have HY7:=hid ((HB7.out.block _ (lt_of_block HYB.out)).trans HYB.out)
   have hsb:w5.heap.size≤w6.heap.size:=HB6.out.size
   have h45:=HB5.out.size
   have hll:LSL.length≤100000:=by rw[HLS.out];have h9:=lost_len L HK.out;omega
   have HO14:=hid (fun W (hB:Below w7.heap.size w7 W)=>of14_any HVL LSL hA lA hc lc yt yr yi _ _ W (by omega) hll ((HH6.out.below hB7).below hB) ((HL6.out.below hB7).below hB))
   obtain⟨DL,hDL⟩:∃X,X=ofL LSL ⟨⟨yt,yr⟩,yi⟩ HVL:=⟨_,rfl⟩
   rw[←hDL] at HO14
   have HDL:=hid (show DL=ofL (lostL L) ⟨⟨yt,yr⟩,yi⟩ (haveL L) by rw[hDL,HHV.out,HLS.out])
   generalize w6.heap.size=sb at *
   clear hw7 hB7 HOF hDL
   go_upto_region 16 with fail
   refine wp_region_held (S:=fun W'=>W'.heap[yb]? =some (.cells #[.int .i64 yt,.int .i64 yr,.int .i64 yi] 108 (0,0))∧W'.heap[sb]? =some (.cells #[.slice oA on oc,.slice pA pn pc,.slice hA HVL.length hc,.slice lA LSL.length lc,.slice iA ITL.length ic] 105 (0,0))) (by kernel_rfl) ?_
   try(change wpAnyH _ _ _ _ _ _ _ _ (World.drew _))
   refine wpAnyH_take (i:=0) (v:= .agg #[.int .i64 yt,.int .i64 yr,.int .i64 yi]) rfl (by kernel_rfl) (by kernel_rfl) (by kernel_rfl) (fun _ _ _ h=>h) (yieldsIf_load_mid (by rfl) _ _ rfl yb (0) rfl [.int .i64 yt,.int .i64 yr,.int .i64 yi] _ (fun W' hW'=>range_mid (pre:=[]) (mid:=[.int .i64 yt,.int .i64 yr,.int .i64 yi]) (post:=[]) (range_of_block (l:=[.int .i64 yt,.int .i64 yr,.int .i64 yi]) (hW'.1))) Tryz.underlying108 rfl (by kernel_rfl)) ((show w7.drew.heap[_]? =_∧w7.drew.heap[_]? =_ from⟨HY7.out,HSB.out⟩)) ?_
   go_simp
   refine tk 1 (.pointer (some ⟨sb,2,none⟩)) ((show w7.drew.heap[_]? =_∧w7.drew.heap[_]? =_ from⟨HY7.out,HSB.out⟩)) ?_
   go_simp
   refine wpAnyH_take (i:=2) (v:= .slice hA HVL.length hc) rfl (by kernel_rfl) (by kernel_rfl) (by kernel_rfl) (fun _ _ _ h=>h) (Or.inl ⟨by rfl,fun W' hW'=>by(have c_:W'.cell? ⟨sb,2,none⟩=some (.slice hA HVL.length hc):=cell_of_row _ _ _ _ _ _ (hW'.2);go_simp)⟩) ((show w7.drew.heap[_]? =_∧w7.drew.heap[_]? =_ from⟨HY7.out,HSB.out⟩)) ?_
   go_simp
   refine tk 3 (.pointer (some ⟨sb,3,none⟩)) ((show w7.drew.heap[_]? =_∧w7.drew.heap[_]? =_ from⟨HY7.out,HSB.out⟩)) ?_
   go_simp
   refine wpAnyH_take (i:=4) (v:= .slice lA LSL.length lc) rfl (by kernel_rfl) (by kernel_rfl) (by kernel_rfl) (fun _ _ _ h=>h) (Or.inl ⟨by rfl,fun W' hW'=>by(have c_:W'.cell? ⟨sb,3,none⟩=some (.slice lA LSL.length lc):=cell_of_row _ _ _ _ _ _ (hW'.2);go_simp)⟩) ((show w7.drew.heap[_]? =_∧w7.drew.heap[_]? =_ from⟨HY7.out,HSB.out⟩)) ?_
   go_simp
   refine wpAnyH_take (i:=5) (v:= .agg #[.int .i64 yt,.int .i64 yr,.int .i64 yi]) rfl (by kernel_rfl) (by kernel_rfl) (by kernel_rfl) (fun _ _ _ h=>h) (yieldsIf_load_mid (by rfl) _ _ rfl yb (0) rfl [.int .i64 yt,.int .i64 yr,.int .i64 yi] _ (fun W' hW'=>range_mid (pre:=[]) (mid:=[.int .i64 yt,.int .i64 yr,.int .i64 yi]) (post:=[]) (range_of_block (l:=[.int .i64 yt,.int .i64 yr,.int .i64 yi]) (hW'.1))) Tryz.underlying108 rfl (by kernel_rfl)) ((show w7.drew.heap[_]? =_∧w7.drew.heap[_]? =_ from⟨HY7.out,HSB.out⟩)) ?_
   go_simp
   refine wpAnyH_take (i:=8) (v:= .agg #[.int .i64 yt,.int .i64 yr,.int .i64 yi]) rfl (by kernel_rfl) (by kernel_rfl) (by kernel_rfl) (fun _ _ _ h=>h) (yieldsIf_load_mid (by rfl) _ _ rfl yb (0) rfl [.int .i64 yt,.int .i64 yr,.int .i64 yi] _ (fun W' hW'=>range_mid (pre:=[]) (mid:=[.int .i64 yt,.int .i64 yr,.int .i64 yi]) (post:=[]) (range_of_block (l:=[.int .i64 yt,.int .i64 yr,.int .i64 yi]) (hW'.1))) Tryz.underlying108 rfl (by kernel_rfl)) ((show w7.drew.heap[_]? =_∧w7.drew.heap[_]? =_ from⟨HY7.out,HSB.out⟩)) ?_
   go_simp
   refine tk 9 (.agg #[.int .i64 0,.int .i64 0,.int .i64 0]) ((show w7.drew.heap[_]? =_∧w7.drew.heap[_]? =_ from⟨HY7.out,HSB.out⟩)) ?_
   go_simp
   refine tk 10 (.bool (!nb)) ((show w7.drew.heap[_]? =_∧w7.drew.heap[_]? =_ from⟨HY7.out,HSB.out⟩)) ?_
   go_simp
   refine wpAnyH_ready (rs:=[6]) (by kernel_rfl) (by simp) ?_
   refine AllReadyH.cons rfl (fun K hK=> ?_) AllReadyH.nil
   go_simp
   go_at_call 145
   refine(HO14.out w7.drew ((Below.refl _ _).drew)).mono ?_
   rintro e w8 ⟨eA,ec,rfl,hown8,hB8⟩
   have hB8:=show Below w7.heap.size w7 w8 from((Below.refl w7.heap.size w7).drew).trans hB8
   have HF8:=hid (HF7.out.below hB8)
   have HY8:=hid ((hB8.block _ (lt_of_block HY7.out)).trans HY7.out)
   have HS8:=hid ((hB8.block _ (lt_of_block HSB.out)).trans HSB.out)
   have HE8:=hid (ownN_rowF (f:=stL) (z:=Gst.zero) (fun _=>rfl) rfl hown8)
   have HEC:=hid (And.intro (row_cap hown8) (own_capmax hown8))
   have h78:=HB7.out.size
   have hlt7:w4.heap.size≤w7.heap.size:=by omega
   clear hown8 hB8
   refine hK.out _ _ ((show w8.heap[_]? =_∧w8.heap[_]? =_ from⟨HY8.out,HS8.out⟩)) (fun _=> ?_)
   clear hK K
   refine tk 7 (.agg #[.int .i64 2,.int .i64 yt,.int .i64 yr,.int .i64 yi,.int .i64 0,.int .i64 0,.int .i64 0,.string ⟨#[]⟩,.bool false,.slice eA DL.length ec,.int .i64 0,.int .i64 0,.int .i64 0,.int .i64 0,.int .i64 0,.int .i64 0,.string ⟨#[]⟩,.slice none 0 0]) ((show w8.heap[_]? =_∧w8.heap[_]? =_ from⟨HY8.out,HS8.out⟩)) ?_
   go_simp
   obtain⟨V,hV⟩:∃X,X=w8.setRow ((w00.heap.size+1+1)) #[.int .i64 2,.int .i64 yt,.int .i64 yr,.int .i64 yi,.int .i64 0,.int .i64 0,.int .i64 0,.string ⟨#[]⟩,.bool false,.slice eA DL.length ec,.int .i64 0,.int .i64 0,.int .i64 0,.int .i64 0,.int .i64 0,.int .i64 0,.string ⟨#[]⟩,.slice none 0 0]:=⟨_,rfl⟩
   have HV:=hid hV
   have hgv:w8.grownBy V (some ((w00.heap.size+1+1))):=by rw[hV];exact gby_setRow _ _ _
   have HZV:=hid (show V.heap[(w00.heap.size+1+1)]? =some (.cells #[.int .i64 2,.int .i64 yt,.int .i64 yr,.int .i64 yi,.int .i64 0,.int .i64 0,.int .i64 0,.string ⟨#[]⟩,.bool false,.slice eA DL.length ec,.int .i64 0,.int .i64 0,.int .i64 0,.int .i64 0,.int .i64 0,.int .i64 0,.string ⟨#[]⟩,.slice none 0 0] 125 (0,0)) by rw[hV];exact heap_setRow_same _ HF8.out.rz)
   have HDV:=hid ((hgv.block _ (lt_of_block HF8.out.do_) (fun e=>by injection e with e;omega)).trans HF8.out.do_)
   have HWV:=hid ((hgv.block _ (lt_of_block HF8.out.ow) (fun e=>by injection e with e;omega)).trans HF8.out.ow)
   have HLV:=hid (HF8.out.low.grown hgv HF8.out.le (fun b e=>by cases e;omega))
   have HYV:=hid ((hgv.block _ (lt_of_block HY8.out) (fun e=>by injection e with e;omega)).trans HY8.out)
   have HSV:=hid ((hgv.block _ (lt_of_block HS8.out) (fun e=>by injection e with e;omega)).trans HS8.out)
   have HAL:=hid (show(#[.int .i64 2,.int .i64 yt,.int .i64 yr,.int .i64 yi,.int .i64 0,.int .i64 0,.int .i64 0,.string ⟨#[]⟩,.bool false,.slice eA DL.length ec,.int .i64 0,.int .i64 0,.int .i64 0,.int .i64 0,.int .i64 0,.int .i64 0,.string ⟨#[]⟩,.slice none 0 0]:Array Value).toList.all (·.oneCell')=true by rfl)
   clear hV hgv
   refine wpAnyH_ready (rs:=[11]) (by kernel_rfl) (by simp) ?_
   refine AllReadyH.cons rfl (fun K hK=> ?_) AllReadyH.nil
   refine step_store_at rfl _ _ _ rfl ((w00.heap.size+1+1)) 125 #[.int .i64 0,.int .i64 0,.int .i64 0,.int .i64 0,.int .i64 0,.int .i64 0,.int .i64 0,.string ⟨#[]⟩,.bool false,.slice none 0 0,.int .i64 0,.int .i64 0,.int .i64 0,.int .i64 0,.int .i64 0,.int .i64 0,.string ⟨#[]⟩,.slice none 0 0] #[.int .i64 2,.int .i64 yt,.int .i64 yr,.int .i64 yi,.int .i64 0,.int .i64 0,.int .i64 0,.string ⟨#[]⟩,.bool false,.slice eA DL.length ec,.int .i64 0,.int .i64 0,.int .i64 0,.int .i64 0,.int .i64 0,.int .i64 0,.string ⟨#[]⟩,.slice none 0 0] rfl rfl HF8.out.rz (by kernel_rfl) rfl HAL.out ?_
   rw[←HV.out]
   have HEV:=hid (HE8.out.agr (Agr.grown (show w8.grownBy V (some ((w00.heap.size+1+1))) by rw[HV.out];exact gby_setRow _ _ _) fun g e1 e2=>by cases e1;have e2:w7.heap.size≤w00.heap.size+1+1:=e2;omega))
   refine hK.out _ _ ((show V.heap[_]? =_∧V.heap[_]? =_ from⟨HYV.out,HSV.out⟩)) (fun _=> ?_)
   clear hK K
   refine tk 12 (.bool (!nb)) ((show V.heap[_]? =_∧V.heap[_]? =_ from⟨HYV.out,HSV.out⟩)) ?_
   go_simp
   refine wpAnyH_done (by kernel_rfl) ?_ _
   go_simp
   go_wp2
   try simp only[Exit.inBlock,Exit.then]
   refine bodyPost_ret (results_cell_row2 rfl _ _ (w00.heap.size+1+1) _ _ (0,0) _ rfl HZV.out Tryz.underlying125 rfl (by kernel_rfl)) rfl ?_
   exact⟨⟨2,⟨⟨yt,yr⟩,yi⟩,.zero,⟨#[]⟩,false,DL,.zero,.zero,⟨#[]⟩,[]⟩,⟨eA,ec,none,0⟩,(!nb),rfl,(fun hok=>⟨by rw[HDL.out];exact HK.out.drop (HYK.out hok),opin_dots (HEV.out.sub (fun b _ hb=>by have hb:w7.heap.size≤b:=hb;omega)) HEC.out.1 HEC.out.2 rfl (Nat.zero_le _) (Nat.zero_le _)⟩),HLV.out⟩
 ·
  clear hz
  have hz:=hz4
  have t0:(z == 0)=false:=by rcases hz with h|h<;>rw[h]<;>rfl
  have t1:(z == 1)=false:=by rcases hz with h|h<;>rw[h]<;>rfl
  have t2:(z == 2)=false:=by rcases hz with h|h<;>rw[h]<;>rfl
  have t3:(z == 3)=false:=by rcases hz with h|h<;>rw[h]<;>rfl
  go_upto_region 17 with fail
  go_cut [97] (fun s wx=>s= .bool (z == 4)∧w4=wx)
  case first=>
   go_wp2
   go_meet
   exact⟨rfl,rfl⟩
  case rest=>
   obtain⟨rfl,rfl⟩:=hcut
   go_upto_if 97 with fail
   go_cut [97] (fun s wx=>s= .bool true∧w4=wx)
   case first=>
    rcases hz with rfl|rfl
    all_goals go_wp2
    all_goals go_meet
    all_goals exact⟨rfl,rfl⟩
   case rest=>
    obtain⟨rfl,rfl⟩:=hcut
    clear hz4 hz t0 t1 t2 t3
    obtain⟨E,hE⟩:∃X,X=elemsL L ⟨⟨ft,fr⟩,fi⟩:=⟨_,rfl⟩
    have HE:=hid (show((∀x∈E,known1 L x)∧rises Gid.lt E)∧E.length≤32 by rw[hE];exact⟨HK.out.elems _,HK.out.elemsLen _⟩)
    have HEE:=hid hE
    have HEM:=hid (fun W (hB:Below w4.heap.size w4 W)=>show Calls Tryz.prog 146 #[.slice A L.length c,.agg #[.int .i64 ft,.int .i64 fr,.int .i64 fi]] W fun e w'=>∃A' c',e= .returned (.slice A' E.length c')∧w'.ownsRow W.heap.size 108 3 (.slice A' E.length c') E.length (E.flatMap idL)∧Below W.heap.size W w' by
     rw[hE]
     exact elements_any L A c ft fr fi S W (by omega) (fun p hp=>Nat.le_trans (HK.out.one p hp) (by decide)) (by have:=runsL_len ⟨⟨ft,fr⟩,fi⟩ L HK.out.one;omega) (fun p hp=>by
      obtain⟨g,hg,e,hs⟩:=HK.out.run hp
      have h1:=(chk_right (HK.out.chk g hg)).1
      simp only[Gst.right,Bool.and_eq_true,decide_eq_true_eq] at h1
      rw[e]
      exact⟨by omega,by show 0<g.1.s.t;omega,Int.le_refl _,by show(0:Int)≤1000000;omega⟩) (HRG.out.1.below (HB4.out.trans (hB.mono HB4.out.size))) (fun p hp=>(HRG.out.2 p hp).agr (Agr.below (HB4.out.trans (hB.mono HB4.out.size)))))
    clear hE
    obtain⟨nb,hnb⟩:∃b,b=Gid.eqb ⟨⟨ft,fr⟩,fi⟩ ⟨⟨0,0⟩,0⟩:=⟨_,rfl⟩
    have HFK:=hid (show(!nb)=true→known1 L ⟨⟨ft,fr⟩,fi⟩ from fun h=>HFI.out.resolve_left (fun e=>by rw[e] at hnb;rw[hnb] at h;cases h))
    have qn:=ne_id ft fr fi 0 0 0 nb hnb.symm
    clear hnb
    obtain⟨a,ha⟩:∃x,x=pickD E q3:=⟨_,rfl⟩
    have HAI:=hid (show a= .zero∨known1 L a by rw[ha];exact KnG.pick HE.out.1.1 q3)
    have HPA0:∀W jA jc S' (hJ':RowF W S' jA 3 idL Gid.zero E),Calls Tryz.prog 143 #[.slice jA E.length jc,.int .u8 (q3:Int)] W fun e w'=>e= .returned (.agg (idL a).toArray)∧Below W.heap.size W w':=fun W jA jc S' hJ'=>by rw[ha];exact pick_any E jA jc q3 _ W (by have:=HE.out.2;omega) h3 hJ'
    obtain⟨⟨et,er⟩,ei⟩:=a
    have HPA:=hid (fun W jA jc S' (hJ':RowF W S' jA 3 idL Gid.zero E)=>show Calls Tryz.prog 143 #[.slice jA E.length jc,.int .u8 (q3:Int)] W fun e w'=>e= .returned (.agg #[.int .i64 et,.int .i64 er,.int .i64 ei])∧Below W.heap.size W w' from HPA0 W jA jc S' hJ')
    clear ha HPA0
    have d4:w4.cell? ⟨w00.heap.size+1,4,none⟩=some (.int .u8 (q4:Int)):=cell_of_row _ _ _ _ _ _ HF4.out.do_
    go_upto_region 20 with fail
    clear d4
    have hn2:=lt_of_block HF4.out.rz
    have hfl:=lt_of_block HFB.out
    have hfn:fb≠w00.heap.size+1+1:=fun e=>by have h8:=HF4.out.rz;rw[←e] at h8;have h9:=HFB.out.symm.trans h8;cases h9
    have n4:=text_slice q4
    refine wp_region_held (S:=fun W'=>W'.heap[fb]? =some (.cells #[.int .i64 ft,.int .i64 fr,.int .i64 fi] 108 (0,0))∧W'.heap[(w00.heap.size+1+1+1)]? =some (.cells #[.int .i64 t,.int .i64 r,.int .i64 0] 108 (0,0))∧W'.heap[(w00.heap.size+1)]? =some (.cells #[.int .u8 (q0:Int),.int .u8 (q1:Int),.int .u8 (q2:Int),.int .u8 (q3:Int),.int .u8 (q4:Int),.bool see] 86 (0,0))) (by kernel_rfl) ?_
    try(change wpAnyH _ _ _ _ _ _ _ _ (World.drew _))
    refine wpAnyH_take (i:=0) (v:= .agg #[.int .i64 ft,.int .i64 fr,.int .i64 fi]) rfl (by kernel_rfl) (by kernel_rfl) (by kernel_rfl) (fun _ _ _ h=>h) (yieldsIf_load_mid (by rfl) _ _ rfl fb (0) rfl [.int .i64 ft,.int .i64 fr,.int .i64 fi] _ (fun W' hW'=>range_mid (pre:=[]) (mid:=[.int .i64 ft,.int .i64 fr,.int .i64 fi]) (post:=[]) (range_of_block (l:=[.int .i64 ft,.int .i64 fr,.int .i64 fi]) (hW'.1))) Tryz.underlying108 rfl (by kernel_rfl)) ((show w4.drew.heap[_]? =_∧w4.drew.heap[_]? =_∧w4.drew.heap[_]? =_ from⟨HFB.out,HF4.out.ow,HF4.out.do_⟩)) ?_
    go_simp
    refine tk 1 (.slice A L.length c) ((show w4.drew.heap[_]? =_∧w4.drew.heap[_]? =_∧w4.drew.heap[_]? =_ from⟨HFB.out,HF4.out.ow,HF4.out.do_⟩)) ?_
    go_simp
    refine wpAnyH_take (i:=2) (v:= .agg #[.int .i64 ft,.int .i64 fr,.int .i64 fi]) rfl (by kernel_rfl) (by kernel_rfl) (by kernel_rfl) (fun _ _ _ h=>h) (yieldsIf_load_mid (by rfl) _ _ rfl fb (0) rfl [.int .i64 ft,.int .i64 fr,.int .i64 fi] _ (fun W' hW'=>range_mid (pre:=[]) (mid:=[.int .i64 ft,.int .i64 fr,.int .i64 fi]) (post:=[]) (range_of_block (l:=[.int .i64 ft,.int .i64 fr,.int .i64 fi]) (hW'.1))) Tryz.underlying108 rfl (by kernel_rfl)) ((show w4.drew.heap[_]? =_∧w4.drew.heap[_]? =_∧w4.drew.heap[_]? =_ from⟨HFB.out,HF4.out.ow,HF4.out.do_⟩)) ?_
    go_simp
    refine tk 4 (.pointer (some ⟨(w00.heap.size+1),3,none⟩)) ((show w4.drew.heap[_]? =_∧w4.drew.heap[_]? =_∧w4.drew.heap[_]? =_ from⟨HFB.out,HF4.out.ow,HF4.out.do_⟩)) ?_
    go_simp
    refine wpAnyH_take (i:=5) (v:= .int .u8 (q3:Int)) rfl (by kernel_rfl) (by kernel_rfl) (by kernel_rfl) (fun _ _ _ h=>h) (Or.inl ⟨by rfl,fun W' hW'=>by(have c_:W'.cell? ⟨(w00.heap.size+1),3,none⟩=some (.int .u8 (q3:Int)):=cell_of_row _ _ _ _ _ _ (hW'.2.2);go_simp)⟩) ((show w4.drew.heap[_]? =_∧w4.drew.heap[_]? =_∧w4.drew.heap[_]? =_ from⟨HFB.out,HF4.out.ow,HF4.out.do_⟩)) ?_
    go_simp
    refine wpAnyH_take (i:=7) (v:= .agg #[.int .i64 t,.int .i64 r,.int .i64 0]) rfl (by kernel_rfl) (by kernel_rfl) (by kernel_rfl) (fun _ _ _ h=>h) (yieldsIf_load_mid (by rfl) _ _ rfl (w00.heap.size+1+1+1) (0) rfl [.int .i64 t,.int .i64 r,.int .i64 0] _ (fun W' hW'=>range_mid (pre:=[]) (mid:=[.int .i64 t,.int .i64 r,.int .i64 0]) (post:=[]) (range_of_block (l:=[.int .i64 t,.int .i64 r,.int .i64 0]) (hW'.2.1))) Tryz.underlying108 rfl (by kernel_rfl)) ((show w4.drew.heap[_]? =_∧w4.drew.heap[_]? =_∧w4.drew.heap[_]? =_ from⟨HFB.out,HF4.out.ow,HF4.out.do_⟩)) ?_
    go_simp
    refine tk 8 (.int .i64 ((q4:Int) % 5)) ((show w4.drew.heap[_]? =_∧w4.drew.heap[_]? =_∧w4.drew.heap[_]? =_ from⟨HFB.out,HF4.out.ow,HF4.out.do_⟩)) ?_
    go_simp
    refine tk 9 (.int .i64 ((q4:Int) % 5)) ((show w4.drew.heap[_]? =_∧w4.drew.heap[_]? =_∧w4.drew.heap[_]? =_ from⟨HFB.out,HF4.out.ow,HF4.out.do_⟩)) ?_
    go_simp
    refine wpAnyH_take (i:=10) (v:= .int .i64 ((q4:Int) % 5+1)) rfl (by kernel_rfl) (by kernel_rfl) (by kernel_rfl) (fun _ _ _ h=>h) (Or.inl ⟨by rfl,fun W' hW'=>by(go_simp;rw[IntKind.wrap_i64];omega)⟩) ((show w4.drew.heap[_]? =_∧w4.drew.heap[_]? =_∧w4.drew.heap[_]? =_ from⟨HFB.out,HF4.out.ow,HF4.out.do_⟩)) ?_
    go_simp
    refine tk 11 (.pointer (some ⟨(w00.heap.size+1),4,none⟩)) ((show w4.drew.heap[_]? =_∧w4.drew.heap[_]? =_∧w4.drew.heap[_]? =_ from⟨HFB.out,HF4.out.ow,HF4.out.do_⟩)) ?_
    go_simp
    refine wpAnyH_take (i:=12) (v:= .int .u8 (q4:Int)) rfl (by kernel_rfl) (by kernel_rfl) (by kernel_rfl) (fun _ _ _ h=>h) (Or.inl ⟨by rfl,fun W' hW'=>by(have c_:W'.cell? ⟨(w00.heap.size+1),4,none⟩=some (.int .u8 (q4:Int)):=cell_of_row _ _ _ _ _ _ (hW'.2.2);go_simp)⟩) ((show w4.drew.heap[_]? =_∧w4.drew.heap[_]? =_∧w4.drew.heap[_]? =_ from⟨HFB.out,HF4.out.ow,HF4.out.do_⟩)) ?_
    go_simp
    refine wpAnyH_take (i:=13) (v:= .int .i64 (q4:Int)) rfl (by kernel_rfl) (by kernel_rfl) (by kernel_rfl) (fun _ _ _ h=>h) (Or.inl ⟨by rfl,fun W' hW'=>by(go_simp;rw[IntKind.wrap_i64];omega)⟩) ((show w4.drew.heap[_]? =_∧w4.drew.heap[_]? =_∧w4.drew.heap[_]? =_ from⟨HFB.out,HF4.out.ow,HF4.out.do_⟩)) ?_
    go_simp
    refine wpAnyH_take (i:=14) (v:= .int .i64 ((q4:Int) % 2)) rfl (by kernel_rfl) (by kernel_rfl) (by kernel_rfl) (fun _ _ _ h=>h) (Or.inl ⟨by rfl,fun W' hW'=>by(go_simp;exact Int.tmod_eq_emod_of_nonneg (by omega))⟩) ((show w4.drew.heap[_]? =_∧w4.drew.heap[_]? =_∧w4.drew.heap[_]? =_ from⟨HFB.out,HF4.out.ow,HF4.out.do_⟩)) ?_
    go_simp
    refine wpAnyH_take (i:=15) (v:= .int .i64 ((q4:Int) % 5+1+(q4:Int) % 2)) rfl (by kernel_rfl) (by kernel_rfl) (by kernel_rfl) (fun _ _ _ h=>h) (Or.inl ⟨by rfl,fun W' hW'=>by(go_simp;rw[IntKind.wrap_i64];omega)⟩) ((show w4.drew.heap[_]? =_∧w4.drew.heap[_]? =_∧w4.drew.heap[_]? =_ from⟨HFB.out,HF4.out.ow,HF4.out.do_⟩)) ?_
    go_simp
    refine tk 16 (.string (txB2 q4)) ((show w4.drew.heap[_]? =_∧w4.drew.heap[_]? =_∧w4.drew.heap[_]? =_ from⟨HFB.out,HF4.out.ow,HF4.out.do_⟩)) ?_
    go_simp
    refine wpAnyH_take (i:=18) (v:= .agg #[.int .i64 ft,.int .i64 fr,.int .i64 fi]) rfl (by kernel_rfl) (by kernel_rfl) (by kernel_rfl) (fun _ _ _ h=>h) (yieldsIf_load_mid (by rfl) _ _ rfl fb (0) rfl [.int .i64 ft,.int .i64 fr,.int .i64 fi] _ (fun W' hW'=>range_mid (pre:=[]) (mid:=[.int .i64 ft,.int .i64 fr,.int .i64 fi]) (post:=[]) (range_of_block (l:=[.int .i64 ft,.int .i64 fr,.int .i64 fi]) (hW'.1))) Tryz.underlying108 rfl (by kernel_rfl)) ((show w4.drew.heap[_]? =_∧w4.drew.heap[_]? =_∧w4.drew.heap[_]? =_ from⟨HFB.out,HF4.out.ow,HF4.out.do_⟩)) ?_
    go_simp
    refine tk 19 (.agg #[.int .i64 0,.int .i64 0,.int .i64 0]) ((show w4.drew.heap[_]? =_∧w4.drew.heap[_]? =_∧w4.drew.heap[_]? =_ from⟨HFB.out,HF4.out.ow,HF4.out.do_⟩)) ?_
    go_simp
    refine tk 20 (.bool (!nb)) ((show w4.drew.heap[_]? =_∧w4.drew.heap[_]? =_∧w4.drew.heap[_]? =_ from⟨HFB.out,HF4.out.ow,HF4.out.do_⟩)) ?_
    go_simp
    refine wpAnyH_ready (rs:=[3]) (by kernel_rfl) (by simp) ?_
    refine AllReadyH.cons rfl (fun K hK=> ?_) AllReadyH.nil
    go_simp
    go_at_call 146
    refine(HEM.out w4.drew ((Below.refl _ _).drew)).mono ?_
    rintro e w5 ⟨eA,ec,rfl,hown5,hB5⟩
    have HB5:=hid (show Below w4.heap.size w4 w5 from((Below.refl w4.heap.size w4).drew).trans hB5)
    have HER:=hid (ownN_rowF (f:=idL) (z:=Gid.zero) (fun _=>rfl) rfl hown5)
    have HF5:=hid (HF4.out.below HB5.out)
    have HFB5:=hid ((HB5.out.block _ (lt_of_block HFB.out)).trans HFB.out)
    clear hown5 hB5
    refine hK.out _ _ ((show w5.heap[_]? =_∧w5.heap[_]? =_∧w5.heap[_]? =_ from⟨HFB5.out,HF5.out.ow,HF5.out.do_⟩)) (fun _=> ?_)
    clear hK K
    refine wpAnyH_ready (rs:=[6]) (by kernel_rfl) (by simp) ?_
    refine AllReadyH.cons rfl (fun K hK=> ?_) AllReadyH.nil
    go_simp
    go_at_call 143
    refine(HPA.out _ eA ec _ HER.out).mono ?_
    rintro e w6 ⟨rfl,hB6⟩
    have HF6:=hid (HF5.out.below hB6)
    have HFB6:=hid ((hB6.block _ (lt_of_block HFB5.out)).trans HFB5.out)
    clear hB6
    refine hK.out _ _ ((show w6.heap[_]? =_∧w6.heap[_]? =_∧w6.heap[_]? =_ from⟨HFB6.out,HF6.out.ow,HF6.out.do_⟩)) (fun _=> ?_)
    clear hK K
    refine tk 17 (.agg #[.int .i64 3,.int .i64 ft,.int .i64 fr,.int .i64 fi,.int .i64 0,.int .i64 0,.int .i64 0,.string ⟨#[]⟩,.bool false,.slice none 0 0,.int .i64 et,.int .i64 er,.int .i64 ei,.int .i64 t,.int .i64 r,.int .i64 0,.string (txB2 q4),.slice none 0 0]) ((show w6.heap[_]? =_∧w6.heap[_]? =_∧w6.heap[_]? =_ from⟨HFB6.out,HF6.out.ow,HF6.out.do_⟩)) ?_
    go_simp
    obtain⟨V,hV⟩:∃X,X=w6.setRow ((w00.heap.size+1+1)) #[.int .i64 3,.int .i64 ft,.int .i64 fr,.int .i64 fi,.int .i64 0,.int .i64 0,.int .i64 0,.string ⟨#[]⟩,.bool false,.slice none 0 0,.int .i64 et,.int .i64 er,.int .i64 ei,.int .i64 t,.int .i64 r,.int .i64 0,.string (txB2 q4),.slice none 0 0]:=⟨_,rfl⟩
    have HV:=hid hV
    have hgv:w6.grownBy V (some ((w00.heap.size+1+1))):=by rw[hV];exact gby_setRow _ _ _
    have HZV:=hid (show V.heap[(w00.heap.size+1+1)]? =some (.cells #[.int .i64 3,.int .i64 ft,.int .i64 fr,.int .i64 fi,.int .i64 0,.int .i64 0,.int .i64 0,.string ⟨#[]⟩,.bool false,.slice none 0 0,.int .i64 et,.int .i64 er,.int .i64 ei,.int .i64 t,.int .i64 r,.int .i64 0,.string (txB2 q4),.slice none 0 0] 125 (0,0)) by rw[hV];exact heap_setRow_same _ HF6.out.rz)
    have HDV:=hid ((hgv.block _ (lt_of_block HF6.out.do_) (fun e=>by injection e with e;omega)).trans HF6.out.do_)
    have HWV:=hid ((hgv.block _ (lt_of_block HF6.out.ow) (fun e=>by injection e with e;omega)).trans HF6.out.ow)
    have HLV:=hid (HF6.out.low.grown hgv HF6.out.le (fun b e=>by cases e;omega))
    have HFV:=hid ((hgv.block _ (lt_of_block HFB6.out) (fun e=>by injection e with e;omega)).trans HFB6.out)
    have HAL:=hid (show(#[.int .i64 3,.int .i64 ft,.int .i64 fr,.int .i64 fi,.int .i64 0,.int .i64 0,.int .i64 0,.string ⟨#[]⟩,.bool false,.slice none 0 0,.int .i64 et,.int .i64 er,.int .i64 ei,.int .i64 t,.int .i64 r,.int .i64 0,.string (txB2 q4),.slice none 0 0]:Array Value).toList.all (·.oneCell')=true by rfl)
    clear hV hgv
    refine wpAnyH_ready (rs:=[21]) (by kernel_rfl) (by simp) ?_
    refine AllReadyH.cons rfl (fun K hK=> ?_) AllReadyH.nil
    refine step_store_at rfl _ _ _ rfl ((w00.heap.size+1+1)) 125 #[.int .i64 0,.int .i64 0,.int .i64 0,.int .i64 0,.int .i64 0,.int .i64 0,.int .i64 0,.string ⟨#[]⟩,.bool false,.slice none 0 0,.int .i64 0,.int .i64 0,.int .i64 0,.int .i64 0,.int .i64 0,.int .i64 0,.string ⟨#[]⟩,.slice none 0 0] #[.int .i64 3,.int .i64 ft,.int .i64 fr,.int .i64 fi,.int .i64 0,.int .i64 0,.int .i64 0,.string ⟨#[]⟩,.bool false,.slice none 0 0,.int .i64 et,.int .i64 er,.int .i64 ei,.int .i64 t,.int .i64 r,.int .i64 0,.string (txB2 q4),.slice none 0 0] rfl rfl HF6.out.rz (by kernel_rfl) rfl HAL.out ?_
    rw[←HV.out]
    refine hK.out _ _ ((show V.heap[_]? =_∧V.heap[_]? =_∧V.heap[_]? =_ from⟨HFV.out,HWV.out,HDV.out⟩)) (fun _=> ?_)
    clear hK K
    refine tk 22 (.bool (!nb)) ((show V.heap[_]? =_∧V.heap[_]? =_∧V.heap[_]? =_ from⟨HFV.out,HWV.out,HDV.out⟩)) ?_
    go_simp
    refine wpAnyH_done (by kernel_rfl) ?_ _
    go_simp
    go_wp2
    try simp only[Exit.inBlock,Exit.then]
    refine bodyPost_ret (results_cell_row2 rfl _ _ (w00.heap.size+1+1) _ _ (0,0) _ rfl HZV.out Tryz.underlying125 rfl (by kernel_rfl)) rfl ?_
    exact⟨⟨3,⟨⟨ft,fr⟩,fi⟩,.zero,⟨#[]⟩,false,[],⟨⟨et,er⟩,ei⟩,⟨⟨t,r⟩,0⟩,txB2 q4,[]⟩,⟨none,0,none,0⟩,(!nb),rfl,(fun hok=>⟨HK.out.insert (HFK.out hok) HAI.out q4,opin_nil rfl rfl (Nat.zero_le _) (text_le q4)⟩),HLV.out⟩
 ·
  clear hz
  have hz:=hz6
  have t0:(z == 0)=false:=by rcases hz with h|h<;>rw[h]<;>rfl
  have t1:(z == 1)=false:=by rcases hz with h|h<;>rw[h]<;>rfl
  have t2:(z == 2)=false:=by rcases hz with h|h<;>rw[h]<;>rfl
  have t3:(z == 3)=false:=by rcases hz with h|h<;>rw[h]<;>rfl
  have t4:(z == 4)=false:=by rcases hz with h|h<;>rw[h]<;>rfl
  have t5:(z == 5)=false:=by rcases hz with h|h<;>rw[h]<;>rfl
  obtain⟨E,hE⟩:∃X,X=elemsL L ⟨⟨ft,fr⟩,fi⟩:=⟨_,rfl⟩
  have HE:=hid (show((∀x∈E,known1 L x)∧rises Gid.lt E)∧E.length≤32 by rw[hE];exact⟨HK.out.elems _,HK.out.elemsLen _⟩)
  have HEE:=hid hE
  have HEM:=hid (fun W (hB:Below w4.heap.size w4 W)=>show Calls Tryz.prog 146 #[.slice A L.length c,.agg #[.int .i64 ft,.int .i64 fr,.int .i64 fi]] W fun e w'=>∃A' c',e= .returned (.slice A' E.length c')∧w'.ownsRow W.heap.size 108 3 (.slice A' E.length c') E.length (E.flatMap idL)∧Below W.heap.size W w' by
   rw[hE]
   exact elements_any L A c ft fr fi S W (by omega) (fun p hp=>Nat.le_trans (HK.out.one p hp) (by decide)) (by have:=runsL_len ⟨⟨ft,fr⟩,fi⟩ L HK.out.one;omega) (fun p hp=>by
    obtain⟨g,hg,e,hs⟩:=HK.out.run hp
    have h1:=(chk_right (HK.out.chk g hg)).1
    simp only[Gst.right,Bool.and_eq_true,decide_eq_true_eq] at h1
    rw[e]
    exact⟨by omega,by show 0<g.1.s.t;omega,Int.le_refl _,by show(0:Int)≤1000000;omega⟩) (HRG.out.1.below (HB4.out.trans (hB.mono HB4.out.size))) (fun p hp=>(HRG.out.2 p hp).agr (Agr.below (HB4.out.trans (hB.mono HB4.out.size)))))
  clear hE
  obtain⟨nb,hnb⟩:∃b,b=Gid.eqb ⟨⟨ft,fr⟩,fi⟩ ⟨⟨0,0⟩,0⟩:=⟨_,rfl⟩
  have HFK:=hid (show(!nb)=true→known1 L ⟨⟨ft,fr⟩,fi⟩ from fun h=>HFI.out.resolve_left (fun e=>by rw[e] at hnb;rw[hnb] at h;cases h))
  have qe:=eq_id ft fr fi 0 0 0 nb hnb.symm
  clear hnb
  have hn2:=lt_of_block HF4.out.rz
  have hfn:fb≠w00.heap.size+1+1:=fun e=>by have h8:=HF4.out.rz;rw[←e] at h8;have h9:=HFB.out.symm.trans h8;cases h9
  go_upto_region 22 with(first
   |(refine load_at rfl _ _ rfl fb _ _ _ rfl HFB.out Tryz.underlying108 rfl ?_ ?_;kernel_rfl)
   |(go_at_call 146;refine(HEM.out w4 (Below.refl _ _)).mono ?_;rintro e w5 ⟨eA,ec,rfl,hown5,hB5⟩;have HOW:=hid hown5;have HB5:=hid hB5;have HF5:=hid (HF4.out.below hB5);have HFB5:=hid ((hB5.block _ (lt_of_block HFB.out)).trans HFB.out);clear hown5 hB5))
  have h45:=HB5.out.size
  cases nb with
  |true=>
   go_upto_region 23 with(refine load_at rfl _ _ rfl fb _ _ _ rfl HFB5.out Tryz.underlying108 rfl ?_ ?_;kernel_rfl)
   obtain⟨V,hV⟩:∃X,X=w5.setRow (w00.heap.size+1+1) #[.int .i64 0,.int .i64 0,.int .i64 0,.int .i64 0,.int .i64 0,.int .i64 0,.int .i64 0,.string ⟨#[]⟩,.bool false,.slice none 0 0,.int .i64 0,.int .i64 0,.int .i64 0,.int .i64 0,.int .i64 0,.int .i64 0,.string ⟨#[]⟩,.slice none 0 0]:=⟨_,rfl⟩
   have HV:=hid hV
   have hgv:w5.grownBy V (some ((w00.heap.size+1+1))):=by rw[hV];exact gby_setRow _ _ _
   have HZV:=hid (show V.heap[(w00.heap.size+1+1)]? =some (.cells #[.int .i64 0,.int .i64 0,.int .i64 0,.int .i64 0,.int .i64 0,.int .i64 0,.int .i64 0,.string ⟨#[]⟩,.bool false,.slice none 0 0,.int .i64 0,.int .i64 0,.int .i64 0,.int .i64 0,.int .i64 0,.int .i64 0,.string ⟨#[]⟩,.slice none 0 0] 125 (0,0)) by rw[hV];exact heap_setRow_same _ HF5.out.rz)
   have HLV:=hid (HF5.out.low.grown hgv HF5.out.le (fun b e=>by cases e;omega))
   have HAL:=hid (show(#[.int .i64 0,.int .i64 0,.int .i64 0,.int .i64 0,.int .i64 0,.int .i64 0,.int .i64 0,.string ⟨#[]⟩,.bool false,.slice none 0 0,.int .i64 0,.int .i64 0,.int .i64 0,.int .i64 0,.int .i64 0,.int .i64 0,.string ⟨#[]⟩,.slice none 0 0]:Array Value).toList.all (·.oneCell')=true by rfl)
   clear hV hgv
   go_wp2_with (refine store_at rfl _ _ _ rfl (w00.heap.size+1+1) 125 #[.int .i64 0,.int .i64 0,.int .i64 0,.int .i64 0,.int .i64 0,.int .i64 0,.int .i64 0,.string ⟨#[]⟩,.bool false,.slice none 0 0,.int .i64 0,.int .i64 0,.int .i64 0,.int .i64 0,.int .i64 0,.int .i64 0,.string ⟨#[]⟩,.slice none 0 0] #[.int .i64 0,.int .i64 0,.int .i64 0,.int .i64 0,.int .i64 0,.int .i64 0,.int .i64 0,.string ⟨#[]⟩,.bool false,.slice none 0 0,.int .i64 0,.int .i64 0,.int .i64 0,.int .i64 0,.int .i64 0,.int .i64 0,.string ⟨#[]⟩,.slice none 0 0] rfl rfl HF5.out.rz (by kernel_rfl) rfl HAL.out ?_;rw[←HV.out])
   try simp only[Exit.inBlock,Exit.then]
   refine bodyPost_ret (results_cell_row2 rfl _ _ (w00.heap.size+1+1) _ _ (0,0) _ rfl HZV.out Tryz.underlying125 rfl (by kernel_rfl)) rfl ?_
   exact⟨⟨0,.zero,.zero,⟨#[]⟩,false,[],.zero,.zero,⟨#[]⟩,[]⟩,⟨none,0,none,0⟩,false,rfl,(fun h=>by cases h),HLV.out⟩
  | false=>
   by_cases hE0:E.length=0
   ·have e1:((E.length:Int) == 0)=true:=by simp[hE0]
    go_upto_region 23 with(refine load_at rfl _ _ rfl fb _ _ _ rfl HFB5.out Tryz.underlying108 rfl ?_ ?_;kernel_rfl)
    obtain⟨V,hV⟩:∃X,X=w5.setRow (w00.heap.size+1+1) #[.int .i64 0,.int .i64 0,.int .i64 0,.int .i64 0,.int .i64 0,.int .i64 0,.int .i64 0,.string ⟨#[]⟩,.bool false,.slice none 0 0,.int .i64 0,.int .i64 0,.int .i64 0,.int .i64 0,.int .i64 0,.int .i64 0,.string ⟨#[]⟩,.slice none 0 0]:=⟨_,rfl⟩
    have HV:=hid hV
    have hgv:w5.grownBy V (some ((w00.heap.size+1+1))):=by rw[hV];exact gby_setRow _ _ _
    have HZV:=hid (show V.heap[(w00.heap.size+1+1)]? =some (.cells #[.int .i64 0,.int .i64 0,.int .i64 0,.int .i64 0,.int .i64 0,.int .i64 0,.int .i64 0,.string ⟨#[]⟩,.bool false,.slice none 0 0,.int .i64 0,.int .i64 0,.int .i64 0,.int .i64 0,.int .i64 0,.int .i64 0,.string ⟨#[]⟩,.slice none 0 0] 125 (0,0)) by rw[hV];exact heap_setRow_same _ HF5.out.rz)
    have HLV:=hid (HF5.out.low.grown hgv HF5.out.le (fun b e=>by cases e;omega))
    have HAL:=hid (show(#[.int .i64 0,.int .i64 0,.int .i64 0,.int .i64 0,.int .i64 0,.int .i64 0,.int .i64 0,.string ⟨#[]⟩,.bool false,.slice none 0 0,.int .i64 0,.int .i64 0,.int .i64 0,.int .i64 0,.int .i64 0,.int .i64 0,.string ⟨#[]⟩,.slice none 0 0]:Array Value).toList.all (·.oneCell')=true by rfl)
    clear hV hgv
    go_wp2_with (refine store_at rfl _ _ _ rfl (w00.heap.size+1+1) 125 #[.int .i64 0,.int .i64 0,.int .i64 0,.int .i64 0,.int .i64 0,.int .i64 0,.int .i64 0,.string ⟨#[]⟩,.bool false,.slice none 0 0,.int .i64 0,.int .i64 0,.int .i64 0,.int .i64 0,.int .i64 0,.int .i64 0,.string ⟨#[]⟩,.slice none 0 0] #[.int .i64 0,.int .i64 0,.int .i64 0,.int .i64 0,.int .i64 0,.int .i64 0,.int .i64 0,.string ⟨#[]⟩,.bool false,.slice none 0 0,.int .i64 0,.int .i64 0,.int .i64 0,.int .i64 0,.int .i64 0,.int .i64 0,.string ⟨#[]⟩,.slice none 0 0] rfl rfl HF5.out.rz (by kernel_rfl) rfl HAL.out ?_;rw[←HV.out])
    try simp only[Exit.inBlock,Exit.then]
    refine bodyPost_ret (results_cell_row2 rfl _ _ (w00.heap.size+1+1) _ _ (0,0) _ rfl HZV.out Tryz.underlying125 rfl (by kernel_rfl)) rfl ?_
    exact⟨⟨0,.zero,.zero,⟨#[]⟩,false,[],.zero,.zero,⟨#[]⟩,[]⟩,⟨none,0,none,0⟩,false,rfl,(fun h=>by cases h),HLV.out⟩
   ·have e1:((E.length:Int) == 0)=false:=by simp[hE0]
    have e2:¬(E.length:Int)=0:=by omega
    obtain⟨g,eg,hgB,hgl,-⟩:=own_range (f:=idL) (fun _=>rfl) HOW.out (k:=0) (by omega) Gid.zero
    cases eg
    obtain⟨k,hk⟩:∃k,k=q3 % E.length:=⟨_,rfl⟩
    have hkl:k<E.length:=by rw[hk];exact Nat.mod_lt _ (by omega)
    have hkt:(q3:Int).tmod (E.length:Int)=(k:Int):=by rw[Int.tmod_eq_emod_of_nonneg (by omega),hk];rfl
    obtain⟨m,hm⟩:∃m,m=min E.length (k+1+q4 % 3):=⟨_,rfl⟩
    have hmk:k<m∧m≤E.length∧m≤k+3:=by omega
    have hmt:min (E.length:Int) ((k:Int)+1+(q4:Int) % 3)=(m:Int):=by rw[hm];omega
    have hcap:=own_capmax HOW.out
    have hrc:=row_cap HOW.out
    have hel:=HE.out.2
    clear hk hm
    obtain⟨XL,hX⟩:∃X,X=(E.drop k).take (m-k):=⟨_,rfl⟩
    have hxl:XL.length=m-k:=by rw[hX,List.length_take,List.length_drop];omega
    have HX:=hid hX
    have HXL:=hid hxl
    clear hX hxl
    have d3:w5.cell? ⟨w00.heap.size+1,3,none⟩=some (.int .u8 (q3:Int)):=cell_of_row _ _ _ _ _ _ HF5.out.do_
    go_upto_region 25 with(refine load_at rfl _ _ rfl fb _ _ _ rfl HFB5.out Tryz.underlying108 rfl ?_ ?_;kernel_rfl)
    clear d3
    refine wp_region_held (S:=fun W'=>W'.heap[fb]? =some (.cells #[.int .i64 ft,.int .i64 fr,.int .i64 fi] 108 (0,0))∧W'.heap[(w00.heap.size+1)]? =some (.cells #[.int .u8 (q0:Int),.int .u8 (q1:Int),.int .u8 (q2:Int),.int .u8 (q3:Int),.int .u8 (q4:Int),.bool see] 86 (0,0))) (by kernel_rfl) ?_
    try(change wpAnyH _ _ _ _ _ _ _ _ (World.drew _))
    refine wpAnyH_take (i:=0) (v:= .agg #[.int .i64 ft,.int .i64 fr,.int .i64 fi]) rfl (by kernel_rfl) (by kernel_rfl) (by kernel_rfl) (fun _ _ _ h=>h) (yieldsIf_load_mid (by rfl) _ _ rfl fb (0) rfl [.int .i64 ft,.int .i64 fr,.int .i64 fi] _ (fun W' hW'=>range_mid (pre:=[]) (mid:=[.int .i64 ft,.int .i64 fr,.int .i64 fi]) (post:=[]) (range_of_block (l:=[.int .i64 ft,.int .i64 fr,.int .i64 fi]) (hW'.1))) Tryz.underlying108 rfl (by kernel_rfl)) ((show w5.drew.heap[_]? =_∧w5.drew.heap[_]? =_ from⟨HFB5.out,HF5.out.do_⟩)) ?_
    go_simp
    refine tk 1 (.slice (some ⟨g,0,none⟩) E.length ec) ((show w5.drew.heap[_]? =_∧w5.drew.heap[_]? =_ from⟨HFB5.out,HF5.out.do_⟩)) ?_
    go_simp
    refine tk 2 (.int .i64 (k:Int)) ((show w5.drew.heap[_]? =_∧w5.drew.heap[_]? =_ from⟨HFB5.out,HF5.out.do_⟩)) ?_
    go_simp
    refine tk 3 (.slice (some ⟨g,0,none⟩) E.length ec) ((show w5.drew.heap[_]? =_∧w5.drew.heap[_]? =_ from⟨HFB5.out,HF5.out.do_⟩)) ?_
    go_simp
    refine tk 4 (.int .i64 (E.length:Int)) ((show w5.drew.heap[_]? =_∧w5.drew.heap[_]? =_ from⟨HFB5.out,HF5.out.do_⟩)) ?_
    go_simp
    refine tk 5 (.int .i64 (k:Int)) ((show w5.drew.heap[_]? =_∧w5.drew.heap[_]? =_ from⟨HFB5.out,HF5.out.do_⟩)) ?_
    go_simp
    refine wpAnyH_take (i:=6) (v:= .int .i64 ((k:Int)+1)) rfl (by kernel_rfl) (by kernel_rfl) (by kernel_rfl) (fun _ _ _ h=>h) (Or.inl ⟨by rfl,fun W' hW'=>by(go_simp;rw[IntKind.wrap_i64];omega)⟩) ((show w5.drew.heap[_]? =_∧w5.drew.heap[_]? =_ from⟨HFB5.out,HF5.out.do_⟩)) ?_
    go_simp
    refine tk 7 (.pointer (some ⟨(w00.heap.size+1),4,none⟩)) ((show w5.drew.heap[_]? =_∧w5.drew.heap[_]? =_ from⟨HFB5.out,HF5.out.do_⟩)) ?_
    go_simp
    refine wpAnyH_take (i:=8) (v:= .int .u8 (q4:Int)) rfl (by kernel_rfl) (by kernel_rfl) (by kernel_rfl) (fun _ _ _ h=>h) (Or.inl ⟨by rfl,fun W' hW'=>by(have c_:W'.cell? ⟨(w00.heap.size+1),4,none⟩=some (.int .u8 (q4:Int)):=cell_of_row _ _ _ _ _ _ (hW'.2);go_simp)⟩) ((show w5.drew.heap[_]? =_∧w5.drew.heap[_]? =_ from⟨HFB5.out,HF5.out.do_⟩)) ?_
    go_simp
    refine wpAnyH_take (i:=9) (v:= .int .i64 (q4:Int)) rfl (by kernel_rfl) (by kernel_rfl) (by kernel_rfl) (fun _ _ _ h=>h) (Or.inl ⟨by rfl,fun W' hW'=>by(go_simp;rw[IntKind.wrap_i64];omega)⟩) ((show w5.drew.heap[_]? =_∧w5.drew.heap[_]? =_ from⟨HFB5.out,HF5.out.do_⟩)) ?_
    go_simp
    refine wpAnyH_take (i:=10) (v:= .int .i64 ((q4:Int) % 3)) rfl (by kernel_rfl) (by kernel_rfl) (by kernel_rfl) (fun _ _ _ h=>h) (Or.inl ⟨by rfl,fun W' hW'=>by(go_simp;exact Int.tmod_eq_emod_of_nonneg (by omega))⟩) ((show w5.drew.heap[_]? =_∧w5.drew.heap[_]? =_ from⟨HFB5.out,HF5.out.do_⟩)) ?_
    go_simp
    refine wpAnyH_take (i:=11) (v:= .int .i64 ((k:Int)+1+(q4:Int) % 3)) rfl (by kernel_rfl) (by kernel_rfl) (by kernel_rfl) (fun _ _ _ h=>h) (Or.inl ⟨by rfl,fun W' hW'=>by(go_simp;rw[IntKind.wrap_i64];omega)⟩) ((show w5.drew.heap[_]? =_∧w5.drew.heap[_]? =_ from⟨HFB5.out,HF5.out.do_⟩)) ?_
    go_simp
    refine wpAnyH_take (i:=12) (v:= .int .i64 (m:Int)) rfl (by kernel_rfl) (by kernel_rfl) (by kernel_rfl) (fun _ _ _ h=>h) (Or.inl ⟨by rfl,fun W' hW'=>by(go_simp)⟩) ((show w5.drew.heap[_]? =_∧w5.drew.heap[_]? =_ from⟨HFB5.out,HF5.out.do_⟩)) ?_
    go_simp
    refine wpAnyH_take (i:=13) (v:= .slice (some ⟨g,k*3,none⟩) XL.length (ec-k)) rfl (by kernel_rfl) (by kernel_rfl) (by kernel_rfl) (fun _ _ _ h=>h) (Or.inl ⟨by rfl,fun W' hW'=>by(go_simp;simp[show m≤ec by omega,show k≤m by omega,show ¬ec=k by omega];rw[HXL.out])⟩) ((show w5.drew.heap[_]? =_∧w5.drew.heap[_]? =_ from⟨HFB5.out,HF5.out.do_⟩)) ?_
    go_simp
    refine tk 14 (.agg #[.int .i64 4,.int .i64 ft,.int .i64 fr,.int .i64 fi,.int .i64 0,.int .i64 0,.int .i64 0,.string ⟨#[]⟩,.bool false,.slice none 0 0,.int .i64 0,.int .i64 0,.int .i64 0,.int .i64 0,.int .i64 0,.int .i64 0,.string ⟨#[]⟩,.slice (some ⟨g,k*3,none⟩) XL.length (ec-k)]) ((show w5.drew.heap[_]? =_∧w5.drew.heap[_]? =_ from⟨HFB5.out,HF5.out.do_⟩)) ?_
    go_simp
    have HF5d:=hid (HF5.out.below ((Below.refl w5.heap.size w5).drew))
    have HFB5d:=hid (show w5.drew.heap[fb]? =_ from HFB5.out)
    obtain⟨V,hV⟩:∃X,X=w5.drew.setRow ((w00.heap.size+1+1)) #[.int .i64 4,.int .i64 ft,.int .i64 fr,.int .i64 fi,.int .i64 0,.int .i64 0,.int .i64 0,.string ⟨#[]⟩,.bool false,.slice none 0 0,.int .i64 0,.int .i64 0,.int .i64 0,.int .i64 0,.int .i64 0,.int .i64 0,.string ⟨#[]⟩,.slice (some ⟨g,k*3,none⟩) XL.length (ec-k)]:=⟨_,rfl⟩
    have HV:=hid hV
    have hgv:w5.drew.grownBy V (some ((w00.heap.size+1+1))):=by rw[hV];exact gby_setRow _ _ _
    have HZV:=hid (show V.heap[(w00.heap.size+1+1)]? =some (.cells #[.int .i64 4,.int .i64 ft,.int .i64 fr,.int .i64 fi,.int .i64 0,.int .i64 0,.int .i64 0,.string ⟨#[]⟩,.bool false,.slice none 0 0,.int .i64 0,.int .i64 0,.int .i64 0,.int .i64 0,.int .i64 0,.int .i64 0,.string ⟨#[]⟩,.slice (some ⟨g,k*3,none⟩) XL.length (ec-k)] 125 (0,0)) by rw[hV];exact heap_setRow_same _ HF5d.out.rz)
    have HDV:=hid ((hgv.block _ (lt_of_block HF5d.out.do_) (fun e=>by injection e with e;omega)).trans HF5d.out.do_)
    have HWV:=hid ((hgv.block _ (lt_of_block HF5d.out.ow) (fun e=>by injection e with e;omega)).trans HF5d.out.ow)
    have HLV:=hid (HF5d.out.low.grown hgv HF5d.out.le (fun b e=>by cases e;omega))
    have HFV:=hid ((hgv.block _ (lt_of_block HFB5d.out) (fun e=>by injection e with e;omega)).trans HFB5d.out)
    have HAL:=hid (show(#[.int .i64 4,.int .i64 ft,.int .i64 fr,.int .i64 fi,.int .i64 0,.int .i64 0,.int .i64 0,.string ⟨#[]⟩,.bool false,.slice none 0 0,.int .i64 0,.int .i64 0,.int .i64 0,.int .i64 0,.int .i64 0,.int .i64 0,.string ⟨#[]⟩,.slice (some ⟨g,k*3,none⟩) XL.length (ec-k)]:Array Value).toList.all (·.oneCell')=true by rfl)
    clear hV hgv
    refine wpAnyH_ready (rs:=[15]) (by kernel_rfl) (by simp) ?_
    refine AllReadyH.cons rfl (fun K hK=> ?_) AllReadyH.nil
    refine step_store_at rfl _ _ _ rfl ((w00.heap.size+1+1)) 125 #[.int .i64 0,.int .i64 0,.int .i64 0,.int .i64 0,.int .i64 0,.int .i64 0,.int .i64 0,.string ⟨#[]⟩,.bool false,.slice none 0 0,.int .i64 0,.int .i64 0,.int .i64 0,.int .i64 0,.int .i64 0,.int .i64 0,.string ⟨#[]⟩,.slice none 0 0] #[.int .i64 4,.int .i64 ft,.int .i64 fr,.int .i64 fi,.int .i64 0,.int .i64 0,.int .i64 0,.string ⟨#[]⟩,.bool false,.slice none 0 0,.int .i64 0,.int .i64 0,.int .i64 0,.int .i64 0,.int .i64 0,.int .i64 0,.string ⟨#[]⟩,.slice (some ⟨g,k*3,none⟩) XL.length (ec-k)] rfl rfl HF5d.out.rz (by kernel_rfl) rfl HAL.out ?_
    rw[←HV.out]
    have HOV:=hid ((show w5.drew.ownsRow _ _ _ _ _ _ from HOW.out).kept (show w5.drew.grownBy V (some ((w00.heap.size+1+1))) from by rw[HV.out];exact gby_setRow _ _ _) (.inr (fun e=>by have e:some g=some ((w00.heap.size+1+1)):=e;injection e with e;omega)))
    refine hK.out _ _ ((show V.heap[_]? =_∧V.heap[_]? =_ from⟨HFV.out,HDV.out⟩)) (fun _=> ?_)
    clear hK K
    refine tk 16 (.bool true) ((show V.heap[_]? =_∧V.heap[_]? =_ from⟨HFV.out,HDV.out⟩)) ?_
    go_simp
    refine wpAnyH_done (by kernel_rfl) ?_ _
    go_simp
    go_wp2
    try simp only[Exit.inBlock,Exit.then]
    refine bodyPost_ret (results_cell_row2 rfl _ _ (w00.heap.size+1+1) _ _ (0,0) _ rfl HZV.out Tryz.underlying125 rfl (by kernel_rfl)) rfl ?_
    exact⟨⟨4,⟨⟨ft,fr⟩,fi⟩,.zero,⟨#[]⟩,false,[],.zero,.zero,⟨#[]⟩,XL⟩,⟨none,0,some ⟨g,k*3,none⟩,ec-k⟩,true,rfl,(fun _=>⟨by rw[HX.out,HEE.out];exact HK.out.erase (HFK.out rfl) _ k (m-k) (by rw[←HEE.out];exact hkl) (by omega) (by omega),by rw[HX.out];exact opin_elems HOV.out (fun b hb=>Nat.le_trans HF4.out.le hb) hrc hcap⟩),HLV.out⟩
end
end Go.Proofs.YtkhmicndehlneaaGreatDoor
