/- Part 9 of the walks and plain laws that this claim uses, joined. Conditions: as each theorem states. -/
import Derived.Test.YtkhmicndehlneaaGreatDoorTh
namespace Go.Proofs.YtkhmicndehlneaaGreatDoor
set_option maxRecDepth 100000
set_option maxHeartbeats 16000000
section
open Go.RowKit Go.Lib Go.Sort
set_option linter.unusedVariables false
attribute [local go_sem ↓] Go.wp_at_zero Go.wp_at_succ
theorem drainF_len:∀(f:Nat) (b:Bx),(drainF f b).1.wait.length≤b.wait.length∧(drainF f b).1.done.length+(drainF f b).1.wait.length≤b.done.length+b.wait.length
 |0,b=>⟨Nat.le_refl _,Nat.le_refl _⟩
 | f+1,b=>by
  cases hb:bestN b.v b.wait b.wait.length with
  |none=>rw[drainF_none hb];exact⟨Nat.le_refl _,Nat.le_refl _⟩
  | some k=>
   have hk:=(bestN_lt hb).1
   have hl:(b.wait.eraseIdx k).length=b.wait.length-1:=by rw[List.length_eraseIdx,if_pos hk]
   cases ho:oldB b.v (b.wait.getD k gz) with
   |true=>
    rw[drainF_old hb ho]
    have:=drainF_len f ⟨b.done,b.wait.eraseIdx k,b.v⟩
    simp only[hl] at this
    omega
   |false=>
    rw[drainF_put hb ho]
    have:=drainF_len f (Bx.put ⟨b.done,b.wait.eraseIdx k,b.v⟩ (b.wait.getD k gz))
    simp only[Bx.put,List.length_append,List.length_singleton,hl] at this
    simp only[Bx.put]
    omega
theorem drainF_cnt:∀(f:Nat) (b:Bx),(drainF f b).2≤f
 |0,b=>Nat.le_refl _
 | f+1,b=>by
  cases hb:bestN b.v b.wait b.wait.length with
  |none=>rw[drainF_none hb];exact Nat.zero_le _
  |some k=>
   cases ho:oldB b.v (b.wait.getD k gz) with
   |true=>rw[drainF_old hb ho];exact Nat.le_succ_of_le (drainF_cnt f _)
   |false=>rw[drainF_put hb ho];exact Nat.succ_le_succ (drainF_cnt f _)
theorem range_of_block {W:World} {g:Nat} {l:List Value} {T:TypeId} (h:W.heap[g]? =some (.cells l.toArray T (0,0))):W.rangeAt g 0 l:=fun j v hv=>by
 rw[Nat.zero_add,cell_of_row _ _ _ _ _ _ h,List.getElem?_toArray];exact hv
theorem bxhear_any {B P:Nat} {S:Nat→Prop} {b:Bx} {X:BoxX} {w:World} (h:BoxIn B P S b.done b.done b.wait b.v X w) (hok:BxOk b) (g:Grp) (x:GrX) (hG:GrG w S (g,x)) (hT1:∀o∈g.ops,o.text.size<9223372036854775807) (hTb:Tabs w) (hwl:b.wait.length≤100) (hlen:b.done.length+b.wait.length≤999999):
  Calls Tryz.prog 20 #[.pointer (some ⟨P,0,none⟩),.agg (grA g x.dA x.dc x.oA x.oc)] w fun e w'=>e= .returned (.tuple #[.int .i64 ((hearB b g).2.1:Nat),.int .i64 (hearB b g).2.2])∧∃X' S',BoxIn B P S' (hearB b g).1.done (hearB b g).1.done (hearB b g).1.wait (hearB b g).1.v X' w'∧BTo P X S w X' S' w':=by
 obtain⟨i0,hi,hz0,hz1,hz2⟩:=info_parts infogrC_
 obtain⟨R,hR⟩:∃R,R=hearB b g:=⟨_,rfl⟩
 rw[←hR]
 obtain⟨GA,hGA⟩:∃l,l=grL g x:=⟨_,rfl⟩
 have HAG:=hid (show grA g x.dA x.dc x.oA x.oc=GA.toArray by rw[hGA];rfl)
 have HGA7:=hid (show GA.length=7 by rw[hGA];rfl)
 have HG1:=hid (show ∀u∈GA,u.oneCell'=true by rw[hGA];exact ocgrC_ (g,x))
 have HGL:=hid hGA
 have HINF:=hid (show(Tryz.prog.info? 45).map (·.size)=some GA.length by rw[HGA7.out];kernel_rfl)
 have hba:Below w.heap.size w (w.alloc (.cells GA.toArray 45)):=(Below.refl _ _).alloc (Nat.le_refl _) _
 have HC:=hid (heap_alloc_new w (.cells GA.toArray 45))
 have HCK:=hid (fun W (hB:Below w.heap.size w W)=>check_any g x.dA x.dc x.oA x.oc S W (GrIn.agr hG (Agr.below hB)) hT1 (hTb.below hB))
 have HX:=hid h
 have HOK:=hid hok
 have HGG:=hid hG
 rw[HAG.out] at HCK ⊢
 clear hT1 hTb hGA
 have HBA:=hid hba
 have HXW:=hid (h.below hba)
 have HOL:=hid (fun q hq=>(h.own_lt (k:=q) hq).2)
 clear hba h hok hG
 cases hck:chkB g with
 | false=>
  obtain rfl:R=(b,0,80):=by rw[hR];unfold hearB;rw[if_pos hck]
  rw[hck] at HCK
  have HCK2:Hid (∀W,Below w.heap.size w W→Calls Tryz.prog 48 #[.agg GA.toArray] W fun e w'=>e= .returned (.int .i64 80)∧Below W.heap.size W w'):=HCK
  clear HCK hck hR
  go_enter Tryz.func20,Tryz.ntmps20
  go_upto_region 1 with fail
  generalize hW:w.alloc (.cells GA.toArray 45)=W at *
  clear hW
  go_wp2_with (first
   |(refine load_at rfl _ _ rfl w.heap.size _ _ _ rfl HC.out Tryz.underlying45 rfl HINF.out ?_)
   |(go_at_call 48;refine(HCK2.out _ HBA.out).mono ?_;rintro e w1 ⟨rfl,hB1⟩))
  go_ret2
  exact⟨rfl,X,S,HXW.out.below hB1,(BTo.of_below HBA.out).trans (BTo.of_below hB1)⟩
 | true=>
  rw[hck] at HCK
  have HCK2:Hid (∀W,Below w.heap.size w W→Calls Tryz.prog 48 #[.agg GA.toArray] W fun e w'=>e= .returned (.int .i64 0)∧Below W.heap.size W w'):=HCK
  clear HCK
  have hgr:=(chk_right hck).1
  obtain⟨kn,hkn⟩:∃k,k=knownB b g:=⟨_,rfl⟩
  have HKN:=hid (fun W (hB:Below w.heap.size w W)=>(show Calls Tryz.prog 49 #[.pointer (some ⟨P,0,none⟩),.agg GA.toArray] W fun e w'=>e= .returned (.bool kn)∧Below W.heap.size W w' by
   rw[hkn,←HAG.out];exact bxknown_any (S2:=S) (HX.out.below hB) g x (fun d hd=>(chk_right (HOK.out.chk d (List.mem_append.2 (.inl hd)))).1) hgr (by omega)))
  cases kn with
  | true=>
   obtain rfl:R=(b,0,210):=by rw[hR];unfold hearB;rw[if_neg (by rw[hck];decide),if_pos hkn.symm]
   clear hck hkn hR hgr
   go_enter Tryz.func20,Tryz.ntmps20
   go_upto_region 1 with fail
   generalize hW:w.alloc (.cells GA.toArray 45)=W at *
   clear hW
   go_wp2_with (first
    |(refine load_at rfl _ _ rfl w.heap.size _ _ _ rfl HC.out Tryz.underlying45 rfl HINF.out ?_)
    |(refine load_at rfl _ _ rfl w.heap.size _ _ _ rfl HC1.out Tryz.underlying45 rfl HINF.out ?_)
    |(go_at_call 48;refine(HCK2.out _ HBA.out).mono ?_;rintro e w1 ⟨rfl,hB1⟩;have HC1:=hid ((hB1.block w.heap.size (lt_of_block HC.out)).trans HC.out);have HB1:=hid (HBA.out.trans (hB1.mono HBA.out.size));clear hB1)
    |(go_at_call 49;refine(HKN.out _ HB1.out).mono ?_;rintro e w2 ⟨rfl,hB2⟩))
   go_ret2
   exact⟨rfl,X,S,(HX.out.below HB1.out).below hB2,(BTo.of_below HB1.out).trans (BTo.of_below hB2)⟩
  | false=>
   obtain⟨hold,hnew⟩:=not_known hkn.symm
   have hdl:=chk_dl hck
   obtain⟨rd,hrd⟩:∃r,r=readyB b.v g:=⟨_,rfl⟩
   have HRD:=hid (fun W (hB:Below w.heap.size w W)=>(show Calls Tryz.prog 50 #[.pointer (some ⟨P,0,none⟩),.agg GA.toArray] W fun e w'=>e= .returned (.bool rd)∧Below W.heap.size W w' by
    rw[hrd,←HAG.out];exact bxready_any (HX.out.below hB) g x (HGG.out.agr (Agr.below hB)) hdl))
   cases rd with
   | true=>
    obtain⟨D,hD⟩:∃D,D=drainF b.wait.length (b.put g):=⟨_,rfl⟩
    obtain rfl:R=(D.1,D.2+1,0):=by rw[hR,hD];unfold hearB;rw[if_neg (by rw[hck];decide),if_neg (by rw[←hkn];decide),if_pos hrd.symm]
    have HPOK:=hid (HOK.out.put hck hrd.symm hold hnew)
    have HDE:=hid (fun W (hB:Below w.heap.size w W)=>(show Calls Tryz.prog 51 #[.pointer (some ⟨P,0,none⟩),.agg GA.toArray] W fun e w'=>e= .returned (.tuple #[])∧∃X' S',BoxIn B P S' (b.done++[g]) (b.done++[g]) b.wait (withV b.v g.s.r g.n) X' w'∧BTo P X S W X' S' w' by
     rw[←HAG.out];exact bxdeliver_any (HX.out.below hB) g x (HGG.out.agr (Agr.below hB)) hgr (by omega) (by omega)))
    have HDR:=hid (fun X1 S1 W (hX1:BoxIn B P S1 (b.done++[g]) (b.done++[g]) b.wait (withV b.v g.s.r g.n) X1 W)=>(show Calls Tryz.prog 52 #[.pointer (some ⟨P,0,none⟩)] W fun e w'=>e= .returned (.int .i64 (D.2:Nat))∧∃X' S',BoxIn B P S' D.1.done D.1.done D.1.wait D.1.v X' w'∧BTo P X1 S1 W X' S' w' by
     rw[hD];exact bxdrain_any (b:=b.put g) hX1 HPOK.out (by show b.wait.length≤1000;omega) (by show(b.done++[g]).length+b.wait.length≤_;rw[List.length_append,List.length_singleton];omega)))
    obtain⟨nd,hnd⟩:∃n,n=D.2:=⟨_,rfl⟩
    have hnl:nd≤1000000:=by rw[hnd,hD];exact Nat.le_trans (drainF_cnt _ _) (by omega)
    rw[←hnd] at HDR ⊢
    clear hck hkn hR hgr hold hnew hrd hdl hnd hD
    go_enter Tryz.func20,Tryz.ntmps20
    go_upto_region 1 with fail
    generalize hW:w.alloc (.cells GA.toArray 45)=W at *
    clear hW
    go_wp2_with (first
     |(refine load_at rfl _ _ rfl w.heap.size _ _ _ rfl HC.out Tryz.underlying45 rfl HINF.out ?_)
     |(refine load_at rfl _ _ rfl w.heap.size _ _ _ rfl HC1.out Tryz.underlying45 rfl HINF.out ?_)
     |(refine load_at rfl _ _ rfl w.heap.size _ _ _ rfl HC2.out Tryz.underlying45 rfl HINF.out ?_)
     |(refine load_at rfl _ _ rfl w.heap.size _ _ _ rfl HC3.out Tryz.underlying45 rfl HINF.out ?_)
     |(go_at_call 48;refine(HCK2.out _ HBA.out).mono ?_;rintro e w1 ⟨rfl,hB1⟩;have HC1:=hid ((hB1.block w.heap.size (lt_of_block HC.out)).trans HC.out);have HB1:=hid (HBA.out.trans (hB1.mono HBA.out.size));clear hB1)
     |(go_at_call 49;refine(HKN.out _ HB1.out).mono ?_;rintro e w2 ⟨rfl,hB2⟩;have HC2:=hid ((hB2.block w.heap.size (lt_of_block HC1.out)).trans HC1.out);have HB2:=hid (HB1.out.trans (hB2.mono HB1.out.size));clear hB2)
     |(go_at_call 50;refine(HRD.out _ HB2.out).mono ?_;rintro e w3 ⟨rfl,hB3⟩;have HC3:=hid ((hB3.block w.heap.size (lt_of_block HC2.out)).trans HC2.out);have HB3:=hid (HB2.out.trans (hB3.mono HB2.out.size));clear hB3)
     |(go_at_call 51;refine(HDE.out _ HB3.out).mono ?_;rintro e w4 ⟨rfl,X4,S4,hX4,hT4⟩;have HX4:=hid hX4;have HT4:=hid ((BTo.of_below HB3.out).trans hT4);clear hX4 hT4)
     |(go_at_call 52;refine(HDR.out X4 S4 _ HX4.out).mono ?_;rintro e w5 ⟨rfl,X5,S5,hX5,hT5⟩))
    go_ret2
    exact⟨by rw[Int.natCast_add,Int.add_comm];rfl,X5,S5,hX5,HT4.out.trans hT5⟩
   | false=>
    have hw:b.wait.length=X.M.length:=HX.out.wlen.symm
    obtain⟨wA,wc,hwv⟩:=row_slice HX.out.wait
    have HWV:=hid hwv
    by_cases hfull:100≤b.wait.length
    ·obtain rfl:R=(b,0,211):=by rw[hR];unfold hearB;rw[if_neg (by rw[hck];decide),if_neg (by rw[←hkn];decide),if_neg (by rw[←hrd];decide),if_pos hfull]
     have HPW:=hid (fun W (hB:Below w.heap.size w W)=>(show W.cell? ⟨P,1,none⟩=some (.slice wA X.M.length wc) by rw[(HX.out.below hB).cell,HWV.out];rfl))
     have i1:(100:Int)≤(X.M.length:Int):=by omega
     clear hck hkn hR hgr hold hnew hrd hdl hw hwv hfull
     go_enter Tryz.func20,Tryz.ntmps20
     go_upto_region 1 with fail
     generalize hW:w.alloc (.cells GA.toArray 45)=W at *
     clear hW
     go_wp2_with (first
      |(refine load_at rfl _ _ rfl w.heap.size _ _ _ rfl HC.out Tryz.underlying45 rfl HINF.out ?_)
      |(refine load_at rfl _ _ rfl w.heap.size _ _ _ rfl HC1.out Tryz.underlying45 rfl HINF.out ?_)
      |(refine load_at rfl _ _ rfl w.heap.size _ _ _ rfl HC2.out Tryz.underlying45 rfl HINF.out ?_)
      |(go_at_call 48;refine(HCK2.out _ HBA.out).mono ?_;rintro e w1 ⟨rfl,hB1⟩;have HC1:=hid ((hB1.block w.heap.size (lt_of_block HC.out)).trans HC.out);have HB1:=hid (HBA.out.trans (hB1.mono HBA.out.size));clear hB1)
      |(go_at_call 49;refine(HKN.out _ HB1.out).mono ?_;rintro e w2 ⟨rfl,hB2⟩;have HC2:=hid ((hB2.block w.heap.size (lt_of_block HC1.out)).trans HC1.out);have HB2:=hid (HB1.out.trans (hB2.mono HB1.out.size));clear hB2)
      |(go_at_call 50;refine(HRD.out _ HB2.out).mono ?_;rintro e w3 ⟨rfl,hB3⟩;have HB3:=hid (HB2.out.trans (hB3.mono HB2.out.size));have p3:=HPW.out _ HB3.out;clear hB3))
     go_ret2
     exact⟨rfl,X,S,HX.out.below HB3.out,BTo.of_below HB3.out⟩
    ·obtain rfl:R=(⟨b.done,b.wait++[g],b.v⟩,0,0):=by rw[hR];unfold hearB;rw[if_neg (by rw[hck];decide),if_neg (by rw[←hkn];decide),if_neg (by rw[←hrd];decide),if_neg hfull]
     have HPW:=hid (fun W (hB:Below w.heap.size w W)=>(show W.cell? ⟨P,1,none⟩=some (.slice wA X.M.length wc) by rw[(HX.out.below hB).cell,HWV.out];rfl))
     have i1:¬(100:Int)≤(X.M.length:Int):=by omega
     have i1d:decide ((100:Int)≤(X.M.length:Int))=false:=decide_eq_false i1
     have hml:X.M.length≤100:=by omega
     clear hck hkn hR hgr hold hnew hrd hdl hw hwv hfull
     go_enter Tryz.func20,Tryz.ntmps20
     go_upto_region 1 with fail
     generalize hW:w.alloc (.cells GA.toArray 45)=W at *
     clear hW
     go_upto_region 11 with(first
      |(refine load_at rfl _ _ rfl w.heap.size _ _ _ rfl HC.out Tryz.underlying45 rfl HINF.out ?_)
      |(refine load_at rfl _ _ rfl w.heap.size _ _ _ rfl HC1.out Tryz.underlying45 rfl HINF.out ?_)
      |(refine load_at rfl _ _ rfl w.heap.size _ _ _ rfl HC2.out Tryz.underlying45 rfl HINF.out ?_)
      |(go_at_call 48;refine(HCK2.out _ HBA.out).mono ?_;rintro e w1 ⟨rfl,hB1⟩;have HC1:=hid ((hB1.block w.heap.size (lt_of_block HC.out)).trans HC.out);have HB1:=hid (HBA.out.trans (hB1.mono HBA.out.size));clear hB1)
      |(go_at_call 49;refine(HKN.out _ HB1.out).mono ?_;rintro e w2 ⟨rfl,hB2⟩;have HC2:=hid ((hB2.block w.heap.size (lt_of_block HC1.out)).trans HC1.out);have HB2:=hid (HB1.out.trans (hB2.mono HB1.out.size));clear hB2)
      |(go_at_call 50;refine(HRD.out _ HB2.out).mono ?_;rintro e w3 ⟨rfl,hB3⟩;have HC3:=hid ((hB3.block w.heap.size (lt_of_block HC2.out)).trans HC2.out);have HB3:=hid (HB2.out.trans (hB3.mono HB2.out.size));have p3:=HPW.out _ HB3.out;clear hB3))
     have HX3:=hid (HX.out.below HB3.out)
     have HG3:=hid (HGG.out.agr (Agr.below HB3.out))
     have hw3:w.heap.size<w3.heap.size:=lt_of_block HC3.out
     have hP3:P<w3.heap.size:=lt_of_block HX3.out.obj
     have hPn:P<w.heap.size:=HOL.out P (.inl rfl)
     have hPB:B≤P:=HX3.out.hP
     obtain⟨⟨t,r⟩,n,u,⟨ut,ur⟩,ops⟩:=g
     obtain⟨dA,dc,oA,oc⟩:=x
     have hga:GA=[.int .i64 t,.int .i64 r,.int .i64 n,.slice dA u.length dc,.int .i64 ut,.int .i64 ur,.slice oA ops.length oc]:=HGL.out
     subst hga
     have HGL:=hid (show[.int .i64 t,.int .i64 r,.int .i64 n,.slice dA u.length dc,.int .i64 ut,.int .i64 ur,.slice oA ops.length oc]=grC_ (⟨⟨t,r⟩,n,u,⟨ut,ur⟩,ops⟩,⟨dA,dc,oA,oc⟩) from rfl)
     refine wp_region_held (S:=fun w'=>w'.heap[w.heap.size]? =some (.cells ([.int .i64 t,.int .i64 r,.int .i64 n,.slice dA u.length dc,.int .i64 ut,.int .i64 ur,.slice oA ops.length oc]:List Value).toArray 45 (0,0))) (by kernel_rfl) ?_
     try(change wpAnyH _ _ _ _ _ _ _ _ (World.drew _))
     refine tk 0 (.pointer (some ⟨P,0,none⟩)) ((show w3.drew.heap[w.heap.size]? =_ from HC3.out)) ?_
     go_simp
     refine tk 1 (.pointer (some ⟨P,0,none⟩)) ((show w3.drew.heap[w.heap.size]? =_ from HC3.out)) ?_
     go_simp
     refine tk 2 (.pointer (some ⟨P,0,none⟩)) ((show w3.drew.heap[w.heap.size]? =_ from HC3.out)) ?_
     go_simp
     refine tk 3 (.pointer (some ⟨P,1,none⟩)) ((show w3.drew.heap[w.heap.size]? =_ from HC3.out)) ?_
     go_simp
     refine wpAnyH_take (i:=5) (v:= .agg ([.int .i64 t,.int .i64 r,.int .i64 n,.slice dA u.length dc,.int .i64 ut,.int .i64 ur,.slice oA ops.length oc]:List Value).toArray) rfl (by kernel_rfl) (by kernel_rfl) (by kernel_rfl) (fun _ _ _ h=>h) (yieldsIf_load_mid (by rfl) _ _ rfl w.heap.size 0 rfl [.int .i64 t,.int .i64 r,.int .i64 n,.slice dA u.length dc,.int .i64 ut,.int .i64 ur,.slice oA ops.length oc] _ (fun W' hW'=>range_of_block hW') Tryz.underlying45 rfl HINF.out) ((show w3.drew.heap[w.heap.size]? =_ from HC3.out)) ?_
     go_simp
     have HBA3:=hid (show Below w3.heap.size w3 (w3.alloc (.cells ([.int .i64 t,.int .i64 r,.int .i64 n,.slice dA u.length dc,.int .i64 ut,.int .i64 ur,.slice oA ops.length oc]:List Value).toArray 45)).drew from⟨rfl,rfl,rfl,by simp,fun k hk=>Below.heap_alloc _ _ _ hk⟩)
     have HCA:=hid (show(w3.alloc (.cells ([.int .i64 t,.int .i64 r,.int .i64 n,.slice dA u.length dc,.int .i64 ut,.int .i64 ur,.slice oA ops.length oc]:List Value).toArray 45)).drew.heap[w.heap.size]? =_ from(Below.heap_alloc w3 (.cells ([.int .i64 t,.int .i64 r,.int .i64 n,.slice dA u.length dc,.int .i64 ut,.int .i64 ur,.slice oA ops.length oc]:List Value).toArray 45) _ hw3).trans HC3.out)
     have HDN:=hid (HX3.out.wait.alloc (.cells ([.int .i64 t,.int .i64 r,.int .i64 n,.slice dA u.length dc,.int .i64 ut,.int .i64 ur,.slice oA ops.length oc]:List Value).toArray 45))
     have HNC:=hid (fun (j:Nat) (y:Value) (h:([.int .i64 t,.int .i64 r,.int .i64 n,.slice dA u.length dc,.int .i64 ut,.int .i64 ur,.slice oA ops.length oc]:List Value)[j]? =some y)=>cellsN w3 [.int .i64 t,.int .i64 r,.int .i64 n,.slice dA u.length dc,.int .i64 ut,.int .i64 ur,.slice oA ops.length oc] 45 j y h)
     have hsA:(w3.alloc (.cells ([.int .i64 t,.int .i64 r,.int .i64 n,.slice dA u.length dc,.int .i64 ut,.int .i64 ur,.slice oA ops.length oc]:List Value).toArray 45)).drew.heap.size=w3.heap.size+1:=by show(w3.alloc _).heap.size=_;simp
     have pA3:(w3.alloc (.cells ([.int .i64 t,.int .i64 r,.int .i64 n,.slice dA u.length dc,.int .i64 ut,.int .i64 ur,.slice oA ops.length oc]:List Value).toArray 45)).drew.cell? ⟨P,1,none⟩=some (.slice wA X.M.length wc):=by show(w3.alloc _).cell? _=_;rw[crw ((Below.heap_alloc w3 (.cells ([.int .i64 t,.int .i64 r,.int .i64 n,.slice dA u.length dc,.int .i64 ut,.int .i64 ur,.slice oA ops.length oc]:List Value).toArray 45) P hP3).trans HX3.out.obj),HWV.out];rfl
     have hgl7:([.int .i64 t,.int .i64 r,.int .i64 n,.slice dA u.length dc,.int .i64 ut,.int .i64 ur,.slice oA ops.length oc]:List Value).length=1*7:=HGA7.out
     rw[HWV.out] at HDN
     refine wpAnyH_ready (rs:=[4,6]) (by kernel_rfl) (by simp) ?_
     refine AllReadyH.cons rfl (fun K hK=> ?_) (AllReadyH.cons rfl (fun K hK=> ?_) AllReadyH.nil)
     focus
      go_simp
      refine hK.out _ _ ((show w3.drew.heap[w.heap.size]? =_ from HC3.out)) (fun _=> ?_)
      clear hK K
      refine wpAnyH_ready (rs:=[6]) (by kernel_rfl) (by simp) ?_
      refine AllReadyH.cons rfl (fun K hK=> ?_) AllReadyH.nil
      go_simp
      refine hK.out _ _ (HCA.out) (fun _=> ?_)
      clear hK K
     rotate_left
     focus
      go_simp
      refine hK.out _ _ (HCA.out) (fun _=> ?_)
      clear hK K
      refine wpAnyH_ready (rs:=[4]) (by kernel_rfl) (by simp) ?_
      refine AllReadyH.cons rfl (fun K hK=> ?_) AllReadyH.nil
      go_simp
      refine hK.out _ _ (HCA.out) (fun _=> ?_)
      clear hK K
     all_goals
      refine wpAnyH_ready (rs:=[7]) (by kernel_rfl) (by simp) ?_
      refine AllReadyH.cons rfl (fun K hK=> ?_) AllReadyH.nil
      refine step_append_lies _ (by rfl) _ _ 25 (by rfl) B 45 i0 (.agg #[.int .i64 0,.int .i64 0,.int .i64 0,.slice none 0 0,.int .i64 0,.int .i64 0,.slice none 0 0]) 7 88 Tryz.underlying25 hi hz0 hz1 hz2 rfl (by decide) (.slice wA X.M.length wc) X.M.length _ (by rfl) (by exact HDN.out) ⟨w3.heap.size,0,none⟩ 1 1 [.int .i64 t,.int .i64 r,.int .i64 n,.slice dA u.length dc,.int .i64 ut,.int .i64 ur,.slice oA ops.length oc] (by rfl) hgl7 (by exact HNC.out) HG1.out (by decide) (by unfold maxLen;omega) (by omega) (by rw[hsA];omega) (w3.heap.size+1) hsA ?_
      intro gq cap w5 hown1 hgrow hat hlt3
      rw[←HWV.out] at hgrow hat
      have hgne:some w.heap.size≠X.wv.ownBlock:=fun e=>by have:=HOL.out _ (.inr (.inr (.inr e.symm)));omega
      have HC5:=hid ((hgrow.block w.heap.size (by rw[hsA];omega) hgne).trans HCA.out)
      have hPd:some P≠X.wv.ownBlock:=fun e=>HX3.out.wP e.symm
      have hob:=(hgrow.block P (by rw[hsA];omega) hPd).trans ((HBA3.out.block P hP3).trans HX3.out.obj)
      have d5:w5.cell? ⟨P,1,none⟩=some (.slice wA X.M.length wc):=by rw[crw hob,HWV.out];rfl
      have f5:w5.frozen? ⟨P,1,none⟩=false:=frozen_of_row _ _ _ _ _ hob
      have hown2:w5.ownsRow B 45 7 (.slice (some ⟨gq,0,none⟩) (X.M.length+1) cap) (X.M++[((⟨⟨t,r⟩,n,u,⟨ut,ur⟩,ops⟩:Grp),(⟨dA,dc,oA,oc⟩:GrX))]).length ((X.M++[((⟨⟨t,r⟩,n,u,⟨ut,ur⟩,ops⟩:Grp),(⟨dA,dc,oA,oc⟩:GrX))]).flatMap grC_):=by rw[List.length_append,List.flatMap_append,List.flatMap_singleton];rw[HGL.out] at hown1;exact hown1
      have HPUT:=hid (HX3.out.wset (wv':= .slice (some ⟨gq,0,none⟩) (X.M.length+1) cap) (M':=X.M++[((⟨⟨t,r⟩,n,u,⟨ut,ur⟩,ops⟩:Grp),(⟨dA,dc,oA,oc⟩:GrX))]) HBA3.out hgrow hown2 (hat.elim (fun e=> .inl (by rw[e];rfl)) (fun e=> .inr (by rw[e,hsA];rfl))) (fun p hp=>by rcases List.mem_append.1 hp with hp|hp;exact HX3.out.good p (List.mem_append.2 (.inr hp));rw[List.mem_singleton] at hp;rw[hp];exact HG3.out))
      clear hown1 hown2 hgrow hat hgne hPd hlt3 hob
      refine hK.out _ _ (HC5.out) (fun _=> ?_)
      clear hK K
      refine tk 8 (.pointer (some ⟨P,0,none⟩)) (HC5.out) ?_
      go_simp
      refine tk 9 (.pointer (some ⟨P,1,none⟩)) (HC5.out) ?_
      go_simp
      refine wpAnyH_ready (rs:=[10]) (by kernel_rfl) (by simp) ?_
      refine AllReadyH.cons rfl (fun K hK=> ?_) AllReadyH.nil
      go_simp
      have HC6:=hid ((Below.heap_setCell w5 ⟨P,1,none⟩ (.slice (some ⟨gq,0,none⟩) (X.M.length+1) cap) w.heap.size (by show w.heap.size≠P;omega)).trans HC5.out)
      refine hK.out _ _ (HC6.out) (fun _=> ?_)
      clear hK K
      refine wpAnyH_done (by kernel_rfl) ?_ _
      go_simp
      obtain⟨hX6,hT6⟩:=HPUT.out
      go_wp2
      go_ret2
      refine⟨rfl,_,S,?_,(BTo.of_below HB3.out).trans hT6⟩
      have:=hX6
      rw[List.map_append,HX3.out.wl] at this
      exact this
def boxN (w:World):BoxX:=⟨.slice none 0 0,.slice none 0 0,none,0,w.heap.size,[],[]⟩
theorem BoxIn.made {w w':World} {S:Nat→Prop} {B:Nat} (hB:B≤w.heap.size) (hS:∀k,S k→k<w.heap.size)
  (hw:w'=(w.alloc (.map #[] 0)).alloc (.cells #[.slice none 0 0,.slice none 0 0,.map (some w.heap.size),.slice none 0 0] 89)):
  BoxIn B (w.heap.size+1) S [] [] [] [] (boxN w) w':=by
 subst hw
 have hs1:(w.alloc (.map #[] 0)).heap.size=w.heap.size+1:=by simp
 refine⟨?_,World.ownsRow_nil _ _ _ _,World.ownsRow_nil _ _ _ _,rfl,rfl,?_,RowG.zero,Nat.le_refl _,Nat.zero_le _,Nat.zero_le _,(fun p hp=>by cases hp),by omega,hB,(by show w.heap.size+1≠w.heap.size;omega),(fun e=>by cases e),(fun e=>by cases e),(fun e=>by cases e),(fun e=>by cases e),(fun g e=>by cases e),fun k hk=>⟨?_,?_⟩⟩
 ·have:=heap_alloc_new (w.alloc (.map #[] 0)) (.cells #[.slice none 0 0,.slice none 0 0,.map (some w.heap.size),.slice none 0 0] 89)
  rw[hs1] at this
  exact this
 ·exact(World.ownsMap_made w Tryz.prog 42 unitElem).kept (World.grownBy_alloc _ _ none) (by simp)
 ·have:=hS k hk;simp;omega
 ·have:=hS k hk
  rintro(h|h|h|h)
  ·omega
  ·have h:k=w.heap.size:=h;omega
  ·cases h
  ·cases h
theorem bxnew_any (w:World):Calls Tryz.prog 18 #[] w fun e w'=>e= .returned (.pointer (some ⟨w.heap.size+1,0,none⟩))∧w'=(w.alloc (.map #[] 0)).alloc (.cells #[.slice none 0 0,.slice none 0 0,.map (some w.heap.size),.slice none 0 0] 89):=by
 have hs1:(w.alloc (.map #[] 0)).heap.size=w.heap.size+1:=by simp
 have HS:=hid hs1
 clear hs1
 have hmm:=@run_makeMap Tryz.prog
 go_enter Tryz.func18,Tryz.ntmps18
 go_wp2
 go_ret
 exact⟨rfl,rfl⟩
theorem infoint_:(Tryz.prog.info? 3).map (fun i=>(i.zero,i.size,i.bytes))=some (some (.int .i64 0),1,8):=by kernel_rfl
theorem clonegr_any (A:Option Addr) (n c:Nat) (xs:List Value) (w:World) (hx:xs.length=n*7) (h0:A=none→n=0) (hc:∀ad,A=some ad→∀j u,xs[j]? =some u→w.cell? (ad.add j)=some u) (h1:∀u∈xs,u.oneCell'=true) (hl:n≤1000000):
  Calls Tryz.prog 53 #[.slice A n c] w fun e w'=>∃A' c',e= .returned (.slice A' n c')∧w'.ownsRow w.heap.size 45 7 (.slice A' n c') n xs∧Below w.heap.size w w':=by
 obtain⟨i0,hi,hz0,hz1,hz2⟩:=info_parts infogrC_
 have q0:∀(w:World) (a:Option Addr) (n c n' c':Nat),(binOp .eql 25 (.slice a n c) (.slice none n' c')).run Tryz.prog w= .ok (.bool a.isNone) w:=fun w a n c n' c'=>Lib.run_eql_slice_nil w _ _ a n c n' c' Tryz.underlying25
 cases A with
 |none=>
  obtain rfl:=h0 rfl
  obtain rfl:xs=[]:=List.length_eq_zero_iff.1 (by omega)
  clear h0 hc h1 hx
  go_enter Tryz.func53,Tryz.ntmps53
  go_wp2
  go_ret
  exact⟨_,_,rfl,World.ownsRow_nil _ _ _ _,Below.refl _ _⟩
 |some ad=>
  have HC:=hid (hc ad rfl)
  have H1:=hid h1
  have HX:=hid hx
  clear h0 hc h1 hx
  have u0:∀w,Sem.run Tryz.prog (underlying 25) w= .ok (TypeDesc.slice 45) w:=run_underlying Tryz.underlying25
  go_enter Tryz.func53,Tryz.ntmps53
  go_wp2_with (at_builtin;refine wpList_append_own _ rfl _ _ 25 rfl w.heap.size 45 i0 (.agg #[.int .i64 0,.int .i64 0,.int .i64 0,.slice none 0 0,.int .i64 0,.int .i64 0,.slice none 0 0]) 7 88 Tryz.underlying25 hi hz0 hz1 hz2 rfl (by decide) _ _ _ rfl (World.ownsRow_made w #[] 0 (Nat.le_refl _) (Nat.zero_le _) rfl) ad n c xs rfl HX.out (fun j u hj=>Lib.cell?_alloc_some _ (HC.out j u hj)) H1.out (by unfold maxLen;omega) (by omega) (by simp) ?_;intro v' w1 hown hgrow hnil)
  go_ret
  obtain⟨A',c',rfl⟩:=row_slice hown
  rw[Nat.zero_add] at hown ⊢
  exact⟨_,_,rfl,by simpa using hown,((Below.refl _ w).alloc (Nat.le_refl _) _).grown hgrow (by simp) (by intro k hk;have hk:some w.heap.size=some k:=hk;injection hk with hk;omega)⟩
theorem cloneint_any (A:Option Addr) (n c:Nat) (xs:List Value) (w:World) (hx:xs.length=n*1) (h0:A=none→n=0) (hc:∀ad,A=some ad→∀j u,xs[j]? =some u→w.cell? (ad.add j)=some u) (h1:∀u∈xs,u.oneCell'=true) (hl:n≤1000000):
  Calls Tryz.prog 64 #[.slice A n c] w fun e w'=>∃A' c',e= .returned (.slice A' n c')∧w'.ownsRow w.heap.size 3 1 (.slice A' n c') n xs∧Below w.heap.size w w':=by
 obtain⟨i0,hi,hz0,hz1,hz2⟩:=info_parts infoint_
 have q0:∀(w:World) (a:Option Addr) (n c n' c':Nat),(binOp .eql 27 (.slice a n c) (.slice none n' c')).run Tryz.prog w= .ok (.bool a.isNone) w:=fun w a n c n' c'=>Lib.run_eql_slice_nil w _ _ a n c n' c' Tryz.underlying27
 cases A with
 |none=>
  obtain rfl:=h0 rfl
  obtain rfl:xs=[]:=List.length_eq_zero_iff.1 (by omega)
  clear h0 hc h1 hx
  go_enter Tryz.func64,Tryz.ntmps64
  go_wp2
  go_ret
  exact⟨_,_,rfl,World.ownsRow_nil _ _ _ _,Below.refl _ _⟩
 |some ad=>
  have HC:=hid (hc ad rfl)
  have H1:=hid h1
  have HX:=hid hx
  clear h0 hc h1 hx
  have u0:∀w,Sem.run Tryz.prog (underlying 27) w= .ok (TypeDesc.slice 3) w:=run_underlying Tryz.underlying27
  go_enter Tryz.func64,Tryz.ntmps64
  go_wp2_with (at_builtin;refine wpList_append_own _ rfl _ _ 27 rfl w.heap.size 3 i0 (.int .i64 0) 1 8 Tryz.underlying27 hi hz0 hz1 hz2 rfl (by decide) _ _ _ rfl (World.ownsRow_made w #[] 0 (Nat.le_refl _) (Nat.zero_le _) rfl) ad n c xs rfl HX.out (fun j u hj=>Lib.cell?_alloc_some _ (HC.out j u hj)) H1.out (by unfold maxLen;omega) (by omega) (by simp) ?_;intro v' w1 hown hgrow hnil)
  go_ret
  obtain⟨A',c',rfl⟩:=row_slice hown
  rw[Nat.zero_add] at hown ⊢
  exact⟨_,_,rfl,by simpa using hown,((Below.refl _ w).alloc (Nat.le_refl _) _).grown hgrow (by simp) (by intro k hk;have hk:some w.heap.size=some k:=hk;injection hk with hk;omega)⟩
theorem row_at {w:World} {B E s n:Nat} {A:Option Addr} {c:Nat} {xs:List Value} (h:w.ownsRow B E s (.slice A n c) n xs):(A=none→n=0)∧∀ad,A=some ad→∀j u,xs[j]? =some u→w.cell? (ad.add j)=some u:=by
 rcases h.2 with⟨e,rfl⟩|⟨g,cap,cur,e,-,hg,-,-,-,htk⟩
 ·cases e
  exact⟨fun _=>rfl,(fun ad e=>by cases e)⟩
 ·cases e
  refine⟨(fun e=>by cases e),fun ad e j u hj=> ?_⟩
  cases e
  rw[Addr.add_mid,Nat.zero_add,cell_of_row _ _ _ _ _ _ hg,←Array.getElem?_toList]
  rw[←htk,List.getElem?_take] at hj
  split at hj
  ·exact hj
  ·cases hj
theorem row_cap {w:World} {B E s n c:Nat} {A:Option Addr} {xs:List Value} (h:w.ownsRow B E s (.slice A n c) n xs):n≤c:=by
 rcases h.2 with⟨e,rfl⟩|⟨g,cap,cur,e,-,-,h3,-⟩
 ·exact Nat.zero_le _
 ·cases e;exact h3
theorem bxdone_any {B P:Nat} {S:Nat→Prop} {dn mp wt:List Grp} {v:List Int} {X:BoxX} {w:World} (h:BoxIn B P S dn mp wt v X w) (hl:dn.length≤1000000):
  Calls Tryz.prog 21 #[.pointer (some ⟨P,0,none⟩)] w fun e w'=>∃A c,e= .returned (.slice A dn.length c)∧w'.ownsRow w.heap.size 45 7 (.slice A X.L.length c) X.L.length (X.L.flatMap grC_)∧Below w.heap.size w w':=by
 obtain⟨A0,c0,hv⟩:=row_slice h.done
 have hO:=h.done
 rw[hv] at hO
 have hx:=row_at hO
 have hn:X.L.length=dn.length:=h.dlen
 have HCL:=hid (clonegr_any A0 X.L.length c0 (X.L.flatMap grC_) w (lengrC_ _) hx.1 hx.2 (fun u hu=>by obtain⟨x,-,hx⟩:=List.mem_flatMap.1 hu;exact ocgrC_ x u hx) (by omega))
 have d0:w.cell? ⟨P,0,none⟩=some (.slice A0 X.L.length c0):=by rw[h.cell,←hv];rfl
 rw[←hn]
 clear h hO hx hv hl hn
 go_enter Tryz.func21,Tryz.ntmps21
 go_wp2_with (go_at_call 53;refine HCL.out.mono ?_;rintro e w1 ⟨A1,c1,rfl,hown,hB⟩)
 go_ret
 exact⟨_,_,rfl,hown,hB⟩
theorem bxwait_any {B P:Nat} {S:Nat→Prop} {dn mp wt:List Grp} {v:List Int} {X:BoxX} {w:World} (h:BoxIn B P S dn mp wt v X w) (hl:wt.length≤1000000):
  Calls Tryz.prog 22 #[.pointer (some ⟨P,0,none⟩)] w fun e w'=>∃A c,e= .returned (.slice A wt.length c)∧w'.ownsRow w.heap.size 45 7 (.slice A X.M.length c) X.M.length (X.M.flatMap grC_)∧Below w.heap.size w w':=by
 obtain⟨A0,c0,hv⟩:=row_slice h.wait
 have hO:=h.wait
 rw[hv] at hO
 have hx:=row_at hO
 have hn:X.M.length=wt.length:=h.wlen
 have HCL:=hid (clonegr_any A0 X.M.length c0 (X.M.flatMap grC_) w (lengrC_ _) hx.1 hx.2 (fun u hu=>by obtain⟨x,-,hx⟩:=List.mem_flatMap.1 hu;exact ocgrC_ x u hx) (by omega))
 have d0:w.cell? ⟨P,1,none⟩=some (.slice A0 X.M.length c0):=by rw[h.cell,←hv];rfl
 rw[←hn]
 clear h hO hx hv hl hn
 go_enter Tryz.func22,Tryz.ntmps22
 go_wp2_with (go_at_call 53;refine HCL.out.mono ?_;rintro e w1 ⟨A1,c1,rfl,hown,hB⟩)
 go_ret
 exact⟨_,_,rfl,hown,hB⟩
theorem bxvec_any {B P:Nat} {S:Nat→Prop} {dn mp wt:List Grp} {v:List Int} {X:BoxX} {w:World} (h:BoxIn B P S dn mp wt v X w):
  Calls Tryz.prog 28 #[.pointer (some ⟨P,0,none⟩)] w fun e w'=>∃A c,e= .returned (.slice A v.length c)∧VecS w' (fun k=>w.heap.size≤k) A v∧v.length≤c∧Below w.heap.size w w':=by
 have hvec:=h.vec
 have HCL:=hid (cloneint_any X.vA v.length X.vc (v.flatMap intC_) w (lenintC_ v) (fun e=>by
   rcases Nat.eq_zero_or_pos v.length with h0|h0
   ·exact h0
   ·obtain⟨b,o,e2,_⟩:=hvec 0 h0;rw[e] at e2;cases e2) (fun ad e j u hj=>by
   rw[show v.flatMap intC_=v.map (Value.int .i64) from by rw[List.map_eq_flatMap];rfl,List.getElem?_map] at hj
   obtain⟨y,hy,rfl⟩:=Option.map_eq_some_iff.1 hj
   obtain⟨b,o,e2,-,-,hc⟩:=hvec j (List.getElem?_eq_some_iff.1 hy).1
   rw[e] at e2;cases e2
   have:=hc 0 (by omega)
   rw[Addr.add_mid]
   simpa[List.getD_eq_getElem?_getD,hy] using this) (fun u hu=>by obtain⟨x,-,hx⟩:=List.mem_flatMap.1 hu;obtain rfl:=List.mem_singleton.1 hx;rfl) (by have:=h.vlen;omega))
 have d0:w.cell? ⟨P,3,none⟩=some (.slice X.vA v.length X.vc):=by rw[h.cell];rfl
 clear h hvec
 go_enter Tryz.func28,Tryz.ntmps28
 go_wp2_with (go_at_call 64;refine HCL.out.mono ?_;rintro e w1 ⟨A1,c1,rfl,hown,hB⟩)
 go_ret
 exact⟨_,_,rfl,vec_own hown,row_cap hown,hB⟩
end
end Go.Proofs.YtkhmicndehlneaaGreatDoor
