/- Part 14 of the walks and plain laws that this claim uses, joined. Conditions: as each theorem states. -/
import Derived.Test.YtkhmicndehlneaaGreatDoorYsm
namespace Go.Proofs.YtkhmicndehlneaaGreatDoor
set_option maxRecDepth 100000
set_option maxHeartbeats 16000000
section
open Go.RowKit Go.Lib Go.Sort
set_option linter.unusedVariables false
attribute [local go_sem ↓] Go.wp_at_zero Go.wp_at_succ
theorem drainF_len:∀(f:Nat) (b:Bx),(drainF f b).1.wait.length≤b.wait.length∧(drainF f b).1.done.length+(drainF f b).1.wait.length≤b.done.length+b.wait.length
 |0,b=>⟨Nat.le_refl _,Nat.le_refl _⟩
 | f+1,b=>by
  cases hb:bestN b.v b.wait b.wait.length with
  |none=>rw[drainF_none hb];exact⟨Nat.le_refl _,Nat.le_refl _⟩
  | some k=>
   have hk:=(bestN_lt hb).1
   have hl:(b.wait.eraseIdx k).length=b.wait.length-1:=by rw[List.length_eraseIdx,if_pos hk]
   cases ho:oldB b.v (b.wait.getD k gz) with
   |true=>
    rw[drainF_old hb ho]
    have:=drainF_len f ⟨b.done,b.wait.eraseIdx k,b.v⟩
    simp only[hl] at this
    omega
   |false=>
    rw[drainF_put hb ho]
    have:=drainF_len f (Bx.put ⟨b.done,b.wait.eraseIdx k,b.v⟩ (b.wait.getD k gz))
    simp only[Bx.put,List.length_append,List.length_singleton,hl] at this
    simp only[Bx.put]
    omega
theorem drainF_cnt:∀(f:Nat) (b:Bx),(drainF f b).2≤f
 |0,b=>Nat.le_refl _
 | f+1,b=>by
  cases hb:bestN b.v b.wait b.wait.length with
  |none=>rw[drainF_none hb];exact Nat.zero_le _
  |some k=>
   cases ho:oldB b.v (b.wait.getD k gz) with
   |true=>rw[drainF_old hb ho];exact Nat.le_succ_of_le (drainF_cnt f _)
   |false=>rw[drainF_put hb ho];exact Nat.succ_le_succ (drainF_cnt f _)
theorem range_of_block {W:World} {g:Nat} {l:List Value} {T:TypeId} (h:W.heap[g]? =some (.cells l.toArray T (0,0))):W.rangeAt g 0 l:=fun j v hv=>by
 rw[Nat.zero_add,cell_of_row _ _ _ _ _ _ h,List.getElem?_toArray];exact hv
theorem hearB_len (b:Bx) (g:Grp) (h:b.wait.length≤100):(hearB b g).1.wait.length≤100∧(hearB b g).1.done.length+(hearB b g).1.wait.length≤b.done.length+b.wait.length+1:=by
 unfold hearB
 split
 ·exact⟨h,Nat.le_succ _⟩
 ·split
  ·exact⟨h,Nat.le_succ _⟩
  ·split
   ·have:=drainF_len b.wait.length (b.put g)
    simp only[Bx.put,List.length_append,List.length_singleton] at this
    simp only[Bx.put]
    omega
   ·split
    ·exact⟨h,Nat.le_succ _⟩
    ·simp only[List.length_append,List.length_singleton];omega
theorem bxhear_any {B P:Nat} {S:Nat→Prop} {b:Bx} {X:BoxX} {w:World} (h:BoxIn B P S b.done b.done b.wait b.v X w) (hok:BxOk b) (g:Grp) (x:GrX) (hG:GrG w S (g,x)) (hT1:∀o∈g.ops,o.text.size<9223372036854775807) (hTb:Tabs w) (hwl:b.wait.length≤100) (hlen:b.done.length+b.wait.length≤999999):
  Calls Tryz.prog 20 #[.pointer (some ⟨P,0,none⟩),.agg (grA g x.dA x.dc x.oA x.oc)] w fun e w'=>e= .returned (.tuple #[.int .i64 ((hearB b g).2.1:Nat),.int .i64 (hearB b g).2.2])∧∃X' S',BoxIn B P S' (hearB b g).1.done (hearB b g).1.done (hearB b g).1.wait (hearB b g).1.v X' w'∧BTo P X S w X' S' w':=by
 obtain⟨i0,hi,hz0,hz1,hz2⟩:=info_parts infogrC_
 obtain⟨R,hR⟩:∃R,R=hearB b g:=⟨_,rfl⟩
 rw[←hR]
 obtain⟨GA,hGA⟩:∃l,l=grL g x:=⟨_,rfl⟩
 have HAG:=hid (show grA g x.dA x.dc x.oA x.oc=GA.toArray by rw[hGA];rfl)
 have HGA7:=hid (show GA.length=7 by rw[hGA];rfl)
 have HG1:=hid (show ∀u∈GA,u.oneCell'=true by rw[hGA];exact ocgrC_ (g,x))
 have HGL:=hid hGA
 have HINF:=hid (show(Tryz.prog.info? 45).map (·.size)=some GA.length by rw[HGA7.out];kernel_rfl)
 have hba:Below w.heap.size w (w.alloc (.cells GA.toArray 45)):=(Below.refl _ _).alloc (Nat.le_refl _) _
 have HC:=hid (heap_alloc_new w (.cells GA.toArray 45))
 have HCK:=hid (fun W (hB:Below w.heap.size w W)=>check_any g x.dA x.dc x.oA x.oc S W (GrIn.agr hG (Agr.below hB)) hT1 (hTb.below hB))
 have HX:=hid h
 have HOK:=hid hok
 have HGG:=hid hG
 rw[HAG.out] at HCK ⊢
 clear hT1 hTb hGA
 have HBA:=hid hba
 have HXW:=hid (h.below hba)
 have HOL:=hid (fun q hq=>(h.own_lt (k:=q) hq).2)
 clear hba h hok hG
 cases hck:chkB g with
 | false=>
  obtain rfl:R=(b,0,80):=by rw[hR];unfold hearB;rw[if_pos hck]
  rw[hck] at HCK
  have HCK2:Hid (∀W,Below w.heap.size w W→Calls Tryz.prog 48 #[.agg GA.toArray] W fun e w'=>e= .returned (.int .i64 80)∧Below W.heap.size W w'):=HCK
  clear HCK hck hR
  go_enter Tryz.func20,Tryz.ntmps20
  go_upto_region 1 with fail
  generalize hW:w.alloc (.cells GA.toArray 45)=W at *
  clear hW
  go_wp2_with (first
   |(refine load_at rfl _ _ rfl w.heap.size _ _ _ rfl HC.out Tryz.underlying45 rfl HINF.out ?_)
   |(go_at_call 48;refine(HCK2.out _ HBA.out).mono ?_;rintro e w1 ⟨rfl,hB1⟩))
  go_ret2
  exact⟨rfl,X,S,HXW.out.below hB1,(BTo.of_below HBA.out).trans (BTo.of_below hB1)⟩
 | true=>
  rw[hck] at HCK
  have HCK2:Hid (∀W,Below w.heap.size w W→Calls Tryz.prog 48 #[.agg GA.toArray] W fun e w'=>e= .returned (.int .i64 0)∧Below W.heap.size W w'):=HCK
  clear HCK
  have hgr:=(chk_right hck).1
  obtain⟨kn,hkn⟩:∃k,k=knownB b g:=⟨_,rfl⟩
  have HKN:=hid (fun W (hB:Below w.heap.size w W)=>(show Calls Tryz.prog 49 #[.pointer (some ⟨P,0,none⟩),.agg GA.toArray] W fun e w'=>e= .returned (.bool kn)∧Below W.heap.size W w' by
   rw[hkn,←HAG.out];exact bxknown_any (S2:=S) (HX.out.below hB) g x (fun d hd=>(chk_right (HOK.out.chk d (List.mem_append.2 (.inl hd)))).1) hgr (by omega)))
  cases kn with
  | true=>
   obtain rfl:R=(b,0,210):=by rw[hR];unfold hearB;rw[if_neg (by rw[hck];decide),if_pos hkn.symm]
   clear hck hkn hR hgr
   go_enter Tryz.func20,Tryz.ntmps20
   go_upto_region 1 with fail
   generalize hW:w.alloc (.cells GA.toArray 45)=W at *
   clear hW
   go_wp2_with (first
    |(refine load_at rfl _ _ rfl w.heap.size _ _ _ rfl HC.out Tryz.underlying45 rfl HINF.out ?_)
    |(refine load_at rfl _ _ rfl w.heap.size _ _ _ rfl HC1.out Tryz.underlying45 rfl HINF.out ?_)
    |(go_at_call 48;refine(HCK2.out _ HBA.out).mono ?_;rintro e w1 ⟨rfl,hB1⟩;have HC1:=hid ((hB1.block w.heap.size (lt_of_block HC.out)).trans HC.out);have HB1:=hid (HBA.out.trans (hB1.mono HBA.out.size));clear hB1)
    |(go_at_call 49;refine(HKN.out _ HB1.out).mono ?_;rintro e w2 ⟨rfl,hB2⟩))
   go_ret2
   exact⟨rfl,X,S,(HX.out.below HB1.out).below hB2,(BTo.of_below HB1.out).trans (BTo.of_below hB2)⟩
  | false=>
   obtain⟨hold,hnew⟩:=not_known hkn.symm
   have hdl:=chk_dl hck
   obtain⟨rd,hrd⟩:∃r,r=readyB b.v g:=⟨_,rfl⟩
   have HRD:=hid (fun W (hB:Below w.heap.size w W)=>(show Calls Tryz.prog 50 #[.pointer (some ⟨P,0,none⟩),.agg GA.toArray] W fun e w'=>e= .returned (.bool rd)∧Below W.heap.size W w' by
    rw[hrd,←HAG.out];exact bxready_any (HX.out.below hB) g x (HGG.out.agr (Agr.below hB)) hdl))
   cases rd with
   | true=>
    obtain⟨D,hD⟩:∃D,D=drainF b.wait.length (b.put g):=⟨_,rfl⟩
    obtain rfl:R=(D.1,D.2+1,0):=by rw[hR,hD];unfold hearB;rw[if_neg (by rw[hck];decide),if_neg (by rw[←hkn];decide),if_pos hrd.symm]
    have HPOK:=hid (HOK.out.put hck hrd.symm hold hnew)
    have HDE:=hid (fun W (hB:Below w.heap.size w W)=>(show Calls Tryz.prog 51 #[.pointer (some ⟨P,0,none⟩),.agg GA.toArray] W fun e w'=>e= .returned (.tuple #[])∧∃X' S',BoxIn B P S' (b.done++[g]) (b.done++[g]) b.wait (withV b.v g.s.r g.n) X' w'∧BTo P X S W X' S' w' by
     rw[←HAG.out];exact bxdeliver_any (HX.out.below hB) g x (HGG.out.agr (Agr.below hB)) hgr (by omega) (by omega)))
    have HDR:=hid (fun X1 S1 W (hX1:BoxIn B P S1 (b.done++[g]) (b.done++[g]) b.wait (withV b.v g.s.r g.n) X1 W)=>(show Calls Tryz.prog 52 #[.pointer (some ⟨P,0,none⟩)] W fun e w'=>e= .returned (.int .i64 (D.2:Nat))∧∃X' S',BoxIn B P S' D.1.done D.1.done D.1.wait D.1.v X' w'∧BTo P X1 S1 W X' S' w' by
     rw[hD];exact bxdrain_any (b:=b.put g) hX1 HPOK.out (by show b.wait.length≤1000;omega) (by show(b.done++[g]).length+b.wait.length≤_;rw[List.length_append,List.length_singleton];omega)))
    obtain⟨nd,hnd⟩:∃n,n=D.2:=⟨_,rfl⟩
    have hnl:nd≤1000000:=by rw[hnd,hD];exact Nat.le_trans (drainF_cnt _ _) (by omega)
    rw[←hnd] at HDR ⊢
    clear hck hkn hR hgr hold hnew hrd hdl hnd hD
    go_enter Tryz.func20,Tryz.ntmps20
    go_upto_region 1 with fail
    generalize hW:w.alloc (.cells GA.toArray 45)=W at *
    clear hW
    go_wp2_with (first
     |(refine load_at rfl _ _ rfl w.heap.size _ _ _ rfl HC.out Tryz.underlying45 rfl HINF.out ?_)
     |(refine load_at rfl _ _ rfl w.heap.size _ _ _ rfl HC1.out Tryz.underlying45 rfl HINF.out ?_)
     |(refine load_at rfl _ _ rfl w.heap.size _ _ _ rfl HC2.out Tryz.underlying45 rfl HINF.out ?_)
     |(refine load_at rfl _ _ rfl w.heap.size _ _ _ rfl HC3.out Tryz.underlying45 rfl HINF.out ?_)
     |(go_at_call 48;refine(HCK2.out _ HBA.out).mono ?_;rintro e w1 ⟨rfl,hB1⟩;have HC1:=hid ((hB1.block w.heap.size (lt_of_block HC.out)).trans HC.out);have HB1:=hid (HBA.out.trans (hB1.mono HBA.out.size));clear hB1)
     |(go_at_call 49;refine(HKN.out _ HB1.out).mono ?_;rintro e w2 ⟨rfl,hB2⟩;have HC2:=hid ((hB2.block w.heap.size (lt_of_block HC1.out)).trans HC1.out);have HB2:=hid (HB1.out.trans (hB2.mono HB1.out.size));clear hB2)
     |(go_at_call 50;refine(HRD.out _ HB2.out).mono ?_;rintro e w3 ⟨rfl,hB3⟩;have HC3:=hid ((hB3.block w.heap.size (lt_of_block HC2.out)).trans HC2.out);have HB3:=hid (HB2.out.trans (hB3.mono HB2.out.size));clear hB3)
     |(go_at_call 51;refine(HDE.out _ HB3.out).mono ?_;rintro e w4 ⟨rfl,X4,S4,hX4,hT4⟩;have HX4:=hid hX4;have HT4:=hid ((BTo.of_below HB3.out).trans hT4);clear hX4 hT4)
     |(go_at_call 52;refine(HDR.out X4 S4 _ HX4.out).mono ?_;rintro e w5 ⟨rfl,X5,S5,hX5,hT5⟩))
    go_ret2
    exact⟨by rw[Int.natCast_add,Int.add_comm];rfl,X5,S5,hX5,HT4.out.trans hT5⟩
   | false=>
    have hw:b.wait.length=X.M.length:=HX.out.wlen.symm
    obtain⟨wA,wc,hwv⟩:=row_slice HX.out.wait
    have HWV:=hid hwv
    by_cases hfull:100≤b.wait.length
    ·obtain rfl:R=(b,0,211):=by rw[hR];unfold hearB;rw[if_neg (by rw[hck];decide),if_neg (by rw[←hkn];decide),if_neg (by rw[←hrd];decide),if_pos hfull]
     have HPW:=hid (fun W (hB:Below w.heap.size w W)=>(show W.cell? ⟨P,1,none⟩=some (.slice wA X.M.length wc) by rw[(HX.out.below hB).cell,HWV.out];rfl))
     have i1:(100:Int)≤(X.M.length:Int):=by omega
     clear hck hkn hR hgr hold hnew hrd hdl hw hwv hfull
     go_enter Tryz.func20,Tryz.ntmps20
     go_upto_region 1 with fail
     generalize hW:w.alloc (.cells GA.toArray 45)=W at *
     clear hW
     go_wp2_with (first
      |(refine load_at rfl _ _ rfl w.heap.size _ _ _ rfl HC.out Tryz.underlying45 rfl HINF.out ?_)
      |(refine load_at rfl _ _ rfl w.heap.size _ _ _ rfl HC1.out Tryz.underlying45 rfl HINF.out ?_)
      |(refine load_at rfl _ _ rfl w.heap.size _ _ _ rfl HC2.out Tryz.underlying45 rfl HINF.out ?_)
      |(go_at_call 48;refine(HCK2.out _ HBA.out).mono ?_;rintro e w1 ⟨rfl,hB1⟩;have HC1:=hid ((hB1.block w.heap.size (lt_of_block HC.out)).trans HC.out);have HB1:=hid (HBA.out.trans (hB1.mono HBA.out.size));clear hB1)
      |(go_at_call 49;refine(HKN.out _ HB1.out).mono ?_;rintro e w2 ⟨rfl,hB2⟩;have HC2:=hid ((hB2.block w.heap.size (lt_of_block HC1.out)).trans HC1.out);have HB2:=hid (HB1.out.trans (hB2.mono HB1.out.size));clear hB2)
      |(go_at_call 50;refine(HRD.out _ HB2.out).mono ?_;rintro e w3 ⟨rfl,hB3⟩;have HB3:=hid (HB2.out.trans (hB3.mono HB2.out.size));have p3:=HPW.out _ HB3.out;clear hB3))
     go_ret2
     exact⟨rfl,X,S,HX.out.below HB3.out,BTo.of_below HB3.out⟩
    ·obtain rfl:R=(⟨b.done,b.wait++[g],b.v⟩,0,0):=by rw[hR];unfold hearB;rw[if_neg (by rw[hck];decide),if_neg (by rw[←hkn];decide),if_neg (by rw[←hrd];decide),if_neg hfull]
     have HPW:=hid (fun W (hB:Below w.heap.size w W)=>(show W.cell? ⟨P,1,none⟩=some (.slice wA X.M.length wc) by rw[(HX.out.below hB).cell,HWV.out];rfl))
     have i1:¬(100:Int)≤(X.M.length:Int):=by omega
     have i1d:decide ((100:Int)≤(X.M.length:Int))=false:=decide_eq_false i1
     have hml:X.M.length≤100:=by omega
     clear hck hkn hR hgr hold hnew hrd hdl hw hwv hfull
     go_enter Tryz.func20,Tryz.ntmps20
     go_upto_region 1 with fail
     generalize hW:w.alloc (.cells GA.toArray 45)=W at *
     clear hW
     go_upto_region 11 with(first
      |(refine load_at rfl _ _ rfl w.heap.size _ _ _ rfl HC.out Tryz.underlying45 rfl HINF.out ?_)
      |(refine load_at rfl _ _ rfl w.heap.size _ _ _ rfl HC1.out Tryz.underlying45 rfl HINF.out ?_)
      |(refine load_at rfl _ _ rfl w.heap.size _ _ _ rfl HC2.out Tryz.underlying45 rfl HINF.out ?_)
      |(go_at_call 48;refine(HCK2.out _ HBA.out).mono ?_;rintro e w1 ⟨rfl,hB1⟩;have HC1:=hid ((hB1.block w.heap.size (lt_of_block HC.out)).trans HC.out);have HB1:=hid (HBA.out.trans (hB1.mono HBA.out.size));clear hB1)
      |(go_at_call 49;refine(HKN.out _ HB1.out).mono ?_;rintro e w2 ⟨rfl,hB2⟩;have HC2:=hid ((hB2.block w.heap.size (lt_of_block HC1.out)).trans HC1.out);have HB2:=hid (HB1.out.trans (hB2.mono HB1.out.size));clear hB2)
      |(go_at_call 50;refine(HRD.out _ HB2.out).mono ?_;rintro e w3 ⟨rfl,hB3⟩;have HC3:=hid ((hB3.block w.heap.size (lt_of_block HC2.out)).trans HC2.out);have HB3:=hid (HB2.out.trans (hB3.mono HB2.out.size));have p3:=HPW.out _ HB3.out;clear hB3))
     have HX3:=hid (HX.out.below HB3.out)
     have HG3:=hid (HGG.out.agr (Agr.below HB3.out))
     have hw3:w.heap.size<w3.heap.size:=lt_of_block HC3.out
     have hP3:P<w3.heap.size:=lt_of_block HX3.out.obj
     have hPn:P<w.heap.size:=HOL.out P (.inl rfl)
     have hPB:B≤P:=HX3.out.hP
     obtain⟨⟨t,r⟩,n,u,⟨ut,ur⟩,ops⟩:=g
     obtain⟨dA,dc,oA,oc⟩:=x
     have hga:GA=[.int .i64 t,.int .i64 r,.int .i64 n,.slice dA u.length dc,.int .i64 ut,.int .i64 ur,.slice oA ops.length oc]:=HGL.out
     subst hga
     have HGL:=hid (show[.int .i64 t,.int .i64 r,.int .i64 n,.slice dA u.length dc,.int .i64 ut,.int .i64 ur,.slice oA ops.length oc]=grC_ (⟨⟨t,r⟩,n,u,⟨ut,ur⟩,ops⟩,⟨dA,dc,oA,oc⟩) from rfl)
     refine wp_region_held (S:=fun w'=>w'.heap[w.heap.size]? =some (.cells ([.int .i64 t,.int .i64 r,.int .i64 n,.slice dA u.length dc,.int .i64 ut,.int .i64 ur,.slice oA ops.length oc]:List Value).toArray 45 (0,0))) (by kernel_rfl) ?_
     try(change wpAnyH _ _ _ _ _ _ _ _ (World.drew _))
     refine tk 0 (.pointer (some ⟨P,0,none⟩)) ((show w3.drew.heap[w.heap.size]? =_ from HC3.out)) ?_
     go_simp
     refine tk 1 (.pointer (some ⟨P,0,none⟩)) ((show w3.drew.heap[w.heap.size]? =_ from HC3.out)) ?_
     go_simp
     refine tk 2 (.pointer (some ⟨P,0,none⟩)) ((show w3.drew.heap[w.heap.size]? =_ from HC3.out)) ?_
     go_simp
     refine tk 3 (.pointer (some ⟨P,1,none⟩)) ((show w3.drew.heap[w.heap.size]? =_ from HC3.out)) ?_
     go_simp
     refine wpAnyH_take (i:=5) (v:= .agg ([.int .i64 t,.int .i64 r,.int .i64 n,.slice dA u.length dc,.int .i64 ut,.int .i64 ur,.slice oA ops.length oc]:List Value).toArray) rfl (by kernel_rfl) (by kernel_rfl) (by kernel_rfl) (fun _ _ _ h=>h) (yieldsIf_load_mid (by rfl) _ _ rfl w.heap.size 0 rfl [.int .i64 t,.int .i64 r,.int .i64 n,.slice dA u.length dc,.int .i64 ut,.int .i64 ur,.slice oA ops.length oc] _ (fun W' hW'=>range_of_block hW') Tryz.underlying45 rfl HINF.out) ((show w3.drew.heap[w.heap.size]? =_ from HC3.out)) ?_
     go_simp
     have HBA3:=hid (show Below w3.heap.size w3 (w3.alloc (.cells ([.int .i64 t,.int .i64 r,.int .i64 n,.slice dA u.length dc,.int .i64 ut,.int .i64 ur,.slice oA ops.length oc]:List Value).toArray 45)).drew from⟨rfl,rfl,rfl,by simp,fun k hk=>Below.heap_alloc _ _ _ hk⟩)
     have HCA:=hid (show(w3.alloc (.cells ([.int .i64 t,.int .i64 r,.int .i64 n,.slice dA u.length dc,.int .i64 ut,.int .i64 ur,.slice oA ops.length oc]:List Value).toArray 45)).drew.heap[w.heap.size]? =_ from(Below.heap_alloc w3 (.cells ([.int .i64 t,.int .i64 r,.int .i64 n,.slice dA u.length dc,.int .i64 ut,.int .i64 ur,.slice oA ops.length oc]:List Value).toArray 45) _ hw3).trans HC3.out)
     have HDN:=hid (HX3.out.wait.alloc (.cells ([.int .i64 t,.int .i64 r,.int .i64 n,.slice dA u.length dc,.int .i64 ut,.int .i64 ur,.slice oA ops.length oc]:List Value).toArray 45))
     have HNC:=hid (fun (j:Nat) (y:Value) (h:([.int .i64 t,.int .i64 r,.int .i64 n,.slice dA u.length dc,.int .i64 ut,.int .i64 ur,.slice oA ops.length oc]:List Value)[j]? =some y)=>cellsN w3 [.int .i64 t,.int .i64 r,.int .i64 n,.slice dA u.length dc,.int .i64 ut,.int .i64 ur,.slice oA ops.length oc] 45 j y h)
     have hsA:(w3.alloc (.cells ([.int .i64 t,.int .i64 r,.int .i64 n,.slice dA u.length dc,.int .i64 ut,.int .i64 ur,.slice oA ops.length oc]:List Value).toArray 45)).drew.heap.size=w3.heap.size+1:=by show(w3.alloc _).heap.size=_;simp
     have pA3:(w3.alloc (.cells ([.int .i64 t,.int .i64 r,.int .i64 n,.slice dA u.length dc,.int .i64 ut,.int .i64 ur,.slice oA ops.length oc]:List Value).toArray 45)).drew.cell? ⟨P,1,none⟩=some (.slice wA X.M.length wc):=by show(w3.alloc _).cell? _=_;rw[crw ((Below.heap_alloc w3 (.cells ([.int .i64 t,.int .i64 r,.int .i64 n,.slice dA u.length dc,.int .i64 ut,.int .i64 ur,.slice oA ops.length oc]:List Value).toArray 45) P hP3).trans HX3.out.obj),HWV.out];rfl
     have hgl7:([.int .i64 t,.int .i64 r,.int .i64 n,.slice dA u.length dc,.int .i64 ut,.int .i64 ur,.slice oA ops.length oc]:List Value).length=1*7:=HGA7.out
     rw[HWV.out] at HDN
     refine wpAnyH_ready (rs:=[4,6]) (by kernel_rfl) (by simp) ?_
     refine AllReadyH.cons rfl (fun K hK=> ?_) (AllReadyH.cons rfl (fun K hK=> ?_) AllReadyH.nil)
     focus
      go_simp
      refine hK.out _ _ ((show w3.drew.heap[w.heap.size]? =_ from HC3.out)) (fun _=> ?_)
      clear hK K
      refine wpAnyH_ready (rs:=[6]) (by kernel_rfl) (by simp) ?_
      refine AllReadyH.cons rfl (fun K hK=> ?_) AllReadyH.nil
      go_simp
      refine hK.out _ _ (HCA.out) (fun _=> ?_)
      clear hK K
     rotate_left
     focus
      go_simp
      refine hK.out _ _ (HCA.out) (fun _=> ?_)
      clear hK K
      refine wpAnyH_ready (rs:=[4]) (by kernel_rfl) (by simp) ?_
      refine AllReadyH.cons rfl (fun K hK=> ?_) AllReadyH.nil
      go_simp
      refine hK.out _ _ (HCA.out) (fun _=> ?_)
      clear hK K
     all_goals
      refine wpAnyH_ready (rs:=[7]) (by kernel_rfl) (by simp) ?_
      refine AllReadyH.cons rfl (fun K hK=> ?_) AllReadyH.nil
      refine step_append_lies _ (by rfl) _ _ 25 (by rfl) B 45 i0 (.agg #[.int .i64 0,.int .i64 0,.int .i64 0,.slice none 0 0,.int .i64 0,.int .i64 0,.slice none 0 0]) 7 88 Tryz.underlying25 hi hz0 hz1 hz2 rfl (by decide) (.slice wA X.M.length wc) X.M.length _ (by rfl) (by exact HDN.out) ⟨w3.heap.size,0,none⟩ 1 1 [.int .i64 t,.int .i64 r,.int .i64 n,.slice dA u.length dc,.int .i64 ut,.int .i64 ur,.slice oA ops.length oc] (by rfl) hgl7 (by exact HNC.out) HG1.out (by decide) (by unfold maxLen;omega) (by omega) (by rw[hsA];omega) (w3.heap.size+1) hsA ?_
      intro gq cap w5 hown1 hgrow hat hlt3
      rw[←HWV.out] at hgrow hat
      have hgne:some w.heap.size≠X.wv.ownBlock:=fun e=>by have:=HOL.out _ (.inr (.inr (.inr e.symm)));omega
      have HC5:=hid ((hgrow.block w.heap.size (by rw[hsA];omega) hgne).trans HCA.out)
      have hPd:some P≠X.wv.ownBlock:=fun e=>HX3.out.wP e.symm
      have hob:=(hgrow.block P (by rw[hsA];omega) hPd).trans ((HBA3.out.block P hP3).trans HX3.out.obj)
      have d5:w5.cell? ⟨P,1,none⟩=some (.slice wA X.M.length wc):=by rw[crw hob,HWV.out];rfl
      have f5:w5.frozen? ⟨P,1,none⟩=false:=frozen_of_row _ _ _ _ _ hob
      have hown2:w5.ownsRow B 45 7 (.slice (some ⟨gq,0,none⟩) (X.M.length+1) cap) (X.M++[((⟨⟨t,r⟩,n,u,⟨ut,ur⟩,ops⟩:Grp),(⟨dA,dc,oA,oc⟩:GrX))]).length ((X.M++[((⟨⟨t,r⟩,n,u,⟨ut,ur⟩,ops⟩:Grp),(⟨dA,dc,oA,oc⟩:GrX))]).flatMap grC_):=by rw[List.length_append,List.flatMap_append,List.flatMap_singleton];rw[HGL.out] at hown1;exact hown1
      have HPUT:=hid (HX3.out.wset (wv':= .slice (some ⟨gq,0,none⟩) (X.M.length+1) cap) (M':=X.M++[((⟨⟨t,r⟩,n,u,⟨ut,ur⟩,ops⟩:Grp),(⟨dA,dc,oA,oc⟩:GrX))]) HBA3.out hgrow hown2 (hat.elim (fun e=> .inl (by rw[e];rfl)) (fun e=> .inr (by rw[e,hsA];rfl))) (fun p hp=>by rcases List.mem_append.1 hp with hp|hp;exact HX3.out.good p (List.mem_append.2 (.inr hp));rw[List.mem_singleton] at hp;rw[hp];exact HG3.out))
      clear hown1 hown2 hgrow hat hgne hPd hlt3 hob
      refine hK.out _ _ (HC5.out) (fun _=> ?_)
      clear hK K
      refine tk 8 (.pointer (some ⟨P,0,none⟩)) (HC5.out) ?_
      go_simp
      refine tk 9 (.pointer (some ⟨P,1,none⟩)) (HC5.out) ?_
      go_simp
      refine wpAnyH_ready (rs:=[10]) (by kernel_rfl) (by simp) ?_
      refine AllReadyH.cons rfl (fun K hK=> ?_) AllReadyH.nil
      go_simp
      have HC6:=hid ((Below.heap_setCell w5 ⟨P,1,none⟩ (.slice (some ⟨gq,0,none⟩) (X.M.length+1) cap) w.heap.size (by show w.heap.size≠P;omega)).trans HC5.out)
      refine hK.out _ _ (HC6.out) (fun _=> ?_)
      clear hK K
      refine wpAnyH_done (by kernel_rfl) ?_ _
      go_simp
      obtain⟨hX6,hT6⟩:=HPUT.out
      go_wp2
      go_ret2
      refine⟨rfl,_,S,?_,(BTo.of_below HB3.out).trans hT6⟩
      have:=hX6
      rw[List.map_append,HX3.out.wl] at this
      exact this
def boxN (w:World):BoxX:=⟨.slice none 0 0,.slice none 0 0,none,0,w.heap.size,[],[]⟩
theorem BoxIn.made {w w':World} {S:Nat→Prop} {B:Nat} (hB:B≤w.heap.size) (hS:∀k,S k→k<w.heap.size)
  (hw:w'=(w.alloc (.map #[] 0)).alloc (.cells #[.slice none 0 0,.slice none 0 0,.map (some w.heap.size),.slice none 0 0] 89)):
  BoxIn B (w.heap.size+1) S [] [] [] [] (boxN w) w':=by
 subst hw
 have hs1:(w.alloc (.map #[] 0)).heap.size=w.heap.size+1:=by simp
 refine⟨?_,World.ownsRow_nil _ _ _ _,World.ownsRow_nil _ _ _ _,rfl,rfl,?_,RowG.zero,Nat.le_refl _,Nat.zero_le _,Nat.zero_le _,(fun p hp=>by cases hp),by omega,hB,(by show w.heap.size+1≠w.heap.size;omega),(fun e=>by cases e),(fun e=>by cases e),(fun e=>by cases e),(fun e=>by cases e),(fun g e=>by cases e),fun k hk=>⟨?_,?_⟩⟩
 ·have:=heap_alloc_new (w.alloc (.map #[] 0)) (.cells #[.slice none 0 0,.slice none 0 0,.map (some w.heap.size),.slice none 0 0] 89)
  rw[hs1] at this
  exact this
 ·exact(World.ownsMap_made w Tryz.prog 42 unitElem).kept (World.grownBy_alloc _ _ none) (by simp)
 ·have:=hS k hk;simp;omega
 ·have:=hS k hk
  rintro(h|h|h|h)
  ·omega
  ·have h:k=w.heap.size:=h;omega
  ·cases h
  ·cases h
theorem bxnew_any (w:World):Calls Tryz.prog 18 #[] w fun e w'=>e= .returned (.pointer (some ⟨w.heap.size+1,0,none⟩))∧w'=(w.alloc (.map #[] 0)).alloc (.cells #[.slice none 0 0,.slice none 0 0,.map (some w.heap.size),.slice none 0 0] 89):=by
 have hs1:(w.alloc (.map #[] 0)).heap.size=w.heap.size+1:=by simp
 have HS:=hid hs1
 clear hs1
 have hmm:=@run_makeMap Tryz.prog
 go_enter Tryz.func18,Tryz.ntmps18
 go_wp2
 go_ret
 exact⟨rfl,rfl⟩
theorem infoint_:(Tryz.prog.info? 3).map (fun i=>(i.zero,i.size,i.bytes))=some (some (.int .i64 0),1,8):=by kernel_rfl
theorem clonegr_any (A:Option Addr) (n c:Nat) (xs:List Value) (w:World) (hx:xs.length=n*7) (h0:A=none→n=0) (hc:∀ad,A=some ad→∀j u,xs[j]? =some u→w.cell? (ad.add j)=some u) (h1:∀u∈xs,u.oneCell'=true) (hl:n≤1000000):
  Calls Tryz.prog 53 #[.slice A n c] w fun e w'=>∃A' c',e= .returned (.slice A' n c')∧w'.ownsRow w.heap.size 45 7 (.slice A' n c') n xs∧Below w.heap.size w w':=by
 obtain⟨i0,hi,hz0,hz1,hz2⟩:=info_parts infogrC_
 have q0:∀(w:World) (a:Option Addr) (n c n' c':Nat),(binOp .eql 25 (.slice a n c) (.slice none n' c')).run Tryz.prog w= .ok (.bool a.isNone) w:=fun w a n c n' c'=>Lib.run_eql_slice_nil w _ _ a n c n' c' Tryz.underlying25
 cases A with
 |none=>
  obtain rfl:=h0 rfl
  obtain rfl:xs=[]:=List.length_eq_zero_iff.1 (by omega)
  clear h0 hc h1 hx
  go_enter Tryz.func53,Tryz.ntmps53
  go_wp2
  go_ret
  exact⟨_,_,rfl,World.ownsRow_nil _ _ _ _,Below.refl _ _⟩
 |some ad=>
  have HC:=hid (hc ad rfl)
  have H1:=hid h1
  have HX:=hid hx
  clear h0 hc h1 hx
  have u0:∀w,Sem.run Tryz.prog (underlying 25) w= .ok (TypeDesc.slice 45) w:=run_underlying Tryz.underlying25
  go_enter Tryz.func53,Tryz.ntmps53
  go_wp2_with (at_builtin;refine wpList_append_own _ rfl _ _ 25 rfl w.heap.size 45 i0 (.agg #[.int .i64 0,.int .i64 0,.int .i64 0,.slice none 0 0,.int .i64 0,.int .i64 0,.slice none 0 0]) 7 88 Tryz.underlying25 hi hz0 hz1 hz2 rfl (by decide) _ _ _ rfl (World.ownsRow_made w #[] 0 (Nat.le_refl _) (Nat.zero_le _) rfl) ad n c xs rfl HX.out (fun j u hj=>Lib.cell?_alloc_some _ (HC.out j u hj)) H1.out (by unfold maxLen;omega) (by omega) (by simp) ?_;intro v' w1 hown hgrow hnil)
  go_ret
  obtain⟨A',c',rfl⟩:=row_slice hown
  rw[Nat.zero_add] at hown ⊢
  exact⟨_,_,rfl,by simpa using hown,((Below.refl _ w).alloc (Nat.le_refl _) _).grown hgrow (by simp) (by intro k hk;have hk:some w.heap.size=some k:=hk;injection hk with hk;omega)⟩
theorem cloneint_any (A:Option Addr) (n c:Nat) (xs:List Value) (w:World) (hx:xs.length=n*1) (h0:A=none→n=0) (hc:∀ad,A=some ad→∀j u,xs[j]? =some u→w.cell? (ad.add j)=some u) (h1:∀u∈xs,u.oneCell'=true) (hl:n≤1000000):
  Calls Tryz.prog 64 #[.slice A n c] w fun e w'=>∃A' c',e= .returned (.slice A' n c')∧w'.ownsRow w.heap.size 3 1 (.slice A' n c') n xs∧Below w.heap.size w w':=by
 obtain⟨i0,hi,hz0,hz1,hz2⟩:=info_parts infoint_
 have q0:∀(w:World) (a:Option Addr) (n c n' c':Nat),(binOp .eql 27 (.slice a n c) (.slice none n' c')).run Tryz.prog w= .ok (.bool a.isNone) w:=fun w a n c n' c'=>Lib.run_eql_slice_nil w _ _ a n c n' c' Tryz.underlying27
 cases A with
 |none=>
  obtain rfl:=h0 rfl
  obtain rfl:xs=[]:=List.length_eq_zero_iff.1 (by omega)
  clear h0 hc h1 hx
  go_enter Tryz.func64,Tryz.ntmps64
  go_wp2
  go_ret
  exact⟨_,_,rfl,World.ownsRow_nil _ _ _ _,Below.refl _ _⟩
 |some ad=>
  have HC:=hid (hc ad rfl)
  have H1:=hid h1
  have HX:=hid hx
  clear h0 hc h1 hx
  have u0:∀w,Sem.run Tryz.prog (underlying 27) w= .ok (TypeDesc.slice 3) w:=run_underlying Tryz.underlying27
  go_enter Tryz.func64,Tryz.ntmps64
  go_wp2_with (at_builtin;refine wpList_append_own _ rfl _ _ 27 rfl w.heap.size 3 i0 (.int .i64 0) 1 8 Tryz.underlying27 hi hz0 hz1 hz2 rfl (by decide) _ _ _ rfl (World.ownsRow_made w #[] 0 (Nat.le_refl _) (Nat.zero_le _) rfl) ad n c xs rfl HX.out (fun j u hj=>Lib.cell?_alloc_some _ (HC.out j u hj)) H1.out (by unfold maxLen;omega) (by omega) (by simp) ?_;intro v' w1 hown hgrow hnil)
  go_ret
  obtain⟨A',c',rfl⟩:=row_slice hown
  rw[Nat.zero_add] at hown ⊢
  exact⟨_,_,rfl,by simpa using hown,((Below.refl _ w).alloc (Nat.le_refl _) _).grown hgrow (by simp) (by intro k hk;have hk:some w.heap.size=some k:=hk;injection hk with hk;omega)⟩
theorem row_at {w:World} {B E s n:Nat} {A:Option Addr} {c:Nat} {xs:List Value} (h:w.ownsRow B E s (.slice A n c) n xs):(A=none→n=0)∧∀ad,A=some ad→∀j u,xs[j]? =some u→w.cell? (ad.add j)=some u:=by
 rcases h.2 with⟨e,rfl⟩|⟨g,cap,cur,e,-,hg,-,-,-,htk⟩
 ·cases e
  exact⟨fun _=>rfl,(fun ad e=>by cases e)⟩
 ·cases e
  refine⟨(fun e=>by cases e),fun ad e j u hj=> ?_⟩
  cases e
  rw[Addr.add_mid,Nat.zero_add,cell_of_row _ _ _ _ _ _ hg,←Array.getElem?_toList]
  rw[←htk,List.getElem?_take] at hj
  split at hj
  ·exact hj
  ·cases hj
theorem row_cap {w:World} {B E s n c:Nat} {A:Option Addr} {xs:List Value} (h:w.ownsRow B E s (.slice A n c) n xs):n≤c:=by
 rcases h.2 with⟨e,rfl⟩|⟨g,cap,cur,e,-,-,h3,-⟩
 ·exact Nat.zero_le _
 ·cases e;exact h3
theorem bxdone_any {B P:Nat} {S:Nat→Prop} {dn mp wt:List Grp} {v:List Int} {X:BoxX} {w:World} (h:BoxIn B P S dn mp wt v X w) (hl:dn.length≤1000000):
  Calls Tryz.prog 21 #[.pointer (some ⟨P,0,none⟩)] w fun e w'=>∃A c,e= .returned (.slice A dn.length c)∧w'.ownsRow w.heap.size 45 7 (.slice A X.L.length c) X.L.length (X.L.flatMap grC_)∧Below w.heap.size w w':=by
 obtain⟨A0,c0,hv⟩:=row_slice h.done
 have hO:=h.done
 rw[hv] at hO
 have hx:=row_at hO
 have hn:X.L.length=dn.length:=h.dlen
 have HCL:=hid (clonegr_any A0 X.L.length c0 (X.L.flatMap grC_) w (lengrC_ _) hx.1 hx.2 (fun u hu=>by obtain⟨x,-,hx⟩:=List.mem_flatMap.1 hu;exact ocgrC_ x u hx) (by omega))
 have d0:w.cell? ⟨P,0,none⟩=some (.slice A0 X.L.length c0):=by rw[h.cell,←hv];rfl
 rw[←hn]
 clear h hO hx hv hl hn
 go_enter Tryz.func21,Tryz.ntmps21
 go_wp2_with (go_at_call 53;refine HCL.out.mono ?_;rintro e w1 ⟨A1,c1,rfl,hown,hB⟩)
 go_ret
 exact⟨_,_,rfl,hown,hB⟩
theorem bxwait_any {B P:Nat} {S:Nat→Prop} {dn mp wt:List Grp} {v:List Int} {X:BoxX} {w:World} (h:BoxIn B P S dn mp wt v X w) (hl:wt.length≤1000000):
  Calls Tryz.prog 22 #[.pointer (some ⟨P,0,none⟩)] w fun e w'=>∃A c,e= .returned (.slice A wt.length c)∧w'.ownsRow w.heap.size 45 7 (.slice A X.M.length c) X.M.length (X.M.flatMap grC_)∧Below w.heap.size w w':=by
 obtain⟨A0,c0,hv⟩:=row_slice h.wait
 have hO:=h.wait
 rw[hv] at hO
 have hx:=row_at hO
 have hn:X.M.length=wt.length:=h.wlen
 have HCL:=hid (clonegr_any A0 X.M.length c0 (X.M.flatMap grC_) w (lengrC_ _) hx.1 hx.2 (fun u hu=>by obtain⟨x,-,hx⟩:=List.mem_flatMap.1 hu;exact ocgrC_ x u hx) (by omega))
 have d0:w.cell? ⟨P,1,none⟩=some (.slice A0 X.M.length c0):=by rw[h.cell,←hv];rfl
 rw[←hn]
 clear h hO hx hv hl hn
 go_enter Tryz.func22,Tryz.ntmps22
 go_wp2_with (go_at_call 53;refine HCL.out.mono ?_;rintro e w1 ⟨A1,c1,rfl,hown,hB⟩)
 go_ret
 exact⟨_,_,rfl,hown,hB⟩
theorem bxvec_any {B P:Nat} {S:Nat→Prop} {dn mp wt:List Grp} {v:List Int} {X:BoxX} {w:World} (h:BoxIn B P S dn mp wt v X w):
  Calls Tryz.prog 28 #[.pointer (some ⟨P,0,none⟩)] w fun e w'=>∃A c,e= .returned (.slice A v.length c)∧VecS w' (fun k=>w.heap.size≤k) A v∧v.length≤c∧Below w.heap.size w w':=by
 have hvec:=h.vec
 have HCL:=hid (cloneint_any X.vA v.length X.vc (v.flatMap intC_) w (lenintC_ v) (fun e=>by
   rcases Nat.eq_zero_or_pos v.length with h0|h0
   ·exact h0
   ·obtain⟨b,o,e2,_⟩:=hvec 0 h0;rw[e] at e2;cases e2) (fun ad e j u hj=>by
   rw[show v.flatMap intC_=v.map (Value.int .i64) from by rw[List.map_eq_flatMap];rfl,List.getElem?_map] at hj
   obtain⟨y,hy,rfl⟩:=Option.map_eq_some_iff.1 hj
   obtain⟨b,o,e2,-,-,hc⟩:=hvec j (List.getElem?_eq_some_iff.1 hy).1
   rw[e] at e2;cases e2
   have:=hc 0 (by omega)
   rw[Addr.add_mid]
   simpa[List.getD_eq_getElem?_getD,hy] using this) (fun u hu=>by obtain⟨x,-,hx⟩:=List.mem_flatMap.1 hu;obtain rfl:=List.mem_singleton.1 hx;rfl) (by have:=h.vlen;omega))
 have d0:w.cell? ⟨P,3,none⟩=some (.slice X.vA v.length X.vc):=by rw[h.cell];rfl
 clear h hvec
 go_enter Tryz.func28,Tryz.ntmps28
 go_wp2_with (go_at_call 64;refine HCL.out.mono ?_;rintro e w1 ⟨A1,c1,rfl,hown,hB⟩)
 go_ret
 exact⟨_,_,rfl,vec_own hown,row_cap hown,hB⟩
theorem getD_fst' (L:List (Grp×GrX)) (k:Nat):(L.getD k gp0).1=(L.map Prod.fst).getD k gz:=by
 rw[List.getD_eq_getElem?_getD,List.getD_eq_getElem?_getD,List.getElem?_map]
 cases L[k]? <;>rfl
theorem aheadV_take:∀(l:List Grp) (v u:List Int),aheadV v l=some u→∀j,j<l.length→∃x,aheadV v (l.take j)=some x∧chkB (l.getD j gz)=true∧covB x (l.getD j gz).deps=true∧atV x (l.getD j gz).s.r=(l.getD j gz).n-1∧aheadV v (l.take (j+1))=some (withV x (l.getD j gz).s.r (l.getD j gz).n)
 | [],v,u,h,j,hj=>absurd hj (Nat.not_lt_zero _)
 | g::l,v,u,h,0,hj=>by
  rw[aheadV] at h
  split at h
  ·rename_i c
   simp only[Bool.and_eq_true,decide_eq_true_eq] at c
   refine⟨v,rfl,c.1.1,c.1.2,c.2,?_⟩
   show aheadV v (g::l.take 0)=_
   rw[aheadV,if_pos (by simp[c.1.1,c.1.2,c.2])]
   rw[List.take_zero];rfl
  ·cases h
 | g::l,v,u,h,j+1,hj=>by
  rw[aheadV] at h
  split at h
  ·rename_i c
   obtain⟨x,h1,h2,h3,h4,h5⟩:=aheadV_take l _ u h j (by simpa using hj)
   refine⟨x,?_,h2,h3,h4,?_⟩
   ·show aheadV v (g::l.take j)=_
    rw[aheadV,if_pos c];exact h1
   ·show aheadV v (g::l.take (j+1))=_
    rw[aheadV,if_pos c];exact h5
  ·cases h
theorem reffind_none (L:List (Grp×GrX)) (A:Option Addr) (c:Nat) (x:Gst) (w:World) (hl:L.length≤1000000) (hR:RowGr w A L) (hn:∀p∈L,p.1.s.eqb x=false):
  Calls Tryz.prog 165 #[.slice A L.length c,.agg #[.int .i64 x.t,.int .i64 x.r]] w fun e w'=>e= .returned (.int .i64 (-1))∧Below w.heap.size w w':=by
 obtain⟨xt,xr⟩:=x
 have hb0:Below w.heap.size w (w.alloc (.cells #[.int .i64 xt,.int .i64 xr] 42)):=(Below.refl _ _).alloc (Nat.le_refl _) _
 have HC:=hid (heap_alloc_new w (.cells #[.int .i64 xt,.int .i64 xr] 42))
 have hs0:(w.alloc (.cells #[.int .i64 xt,.int .i64 xr] 42)).heap.size=w.heap.size+1:=by simp
 have HS:=hid hs0
 have HB:=hid hb0
 have HR:=hid hR
 have HN:=hid hn
 clear hb0 hR hn hs0
 show Calls _ _ #[.slice A L.length c,.agg #[.int .i64 xt,.int .i64 xr]] _ _
 go_enter Tryz.func165,Tryz.ntmps165
 go_upto_region 2 with(fail)
 generalize hW0:w.alloc (.cells #[.int .i64 xt,.int .i64 xr] 42)=W0 at *
 clear hW0
 go_loopw [5] (fun i wr=>∃k:Nat,i= .int .i64 k∧k≤L.length∧Hid (Below W0.heap.size W0 wr)) (fun i _=>L.length-(RowKit.intOf i).toNat)
 case atStart=>exact⟨0,rfl,Nat.zero_le _,hid (Below.refl _ _)⟩
 case round=>
  obtain⟨k,rfl,hk,HBr⟩:=hrel
  have HBw:=hid (HB.out.trans (HBr.out.mono HB.out.size))
  by_cases hlt:k<L.length
  ·obtain⟨rb,ro,rfl,hrb,hrange⟩:=RowGr.range (RowGr.below HR.out HBw.out) hlt
   have i0:(0:Int)≤(k:Int):=by omega
   have i1:(k:Int)<(L.length:Int):=by omega
   have hm:L.getD k gp0∈L:=by rw[List.getD_eq_getElem?_getD,List.getElem?_eq_getElem hlt];exact List.getElem_mem hlt
   have hne:=HN.out _ hm
   generalize L.getD k gp0=p at *
   obtain⟨⟨⟨t,r⟩,n,dv,⟨ut,ur⟩,ops⟩,⟨dA,dc,oA,oc⟩⟩:=p
   have q1:=eq_st t r xt xr false hne
   have HCr:=hid ((HBr.out.block w.heap.size (by rw[HS.out];omega)).trans HC.out)
   have x0:=rg0 HCr.out
   have x1:=rg1 HCr.out
   have y0:=cell_regrown (w:=wr) (a:=⟨rb,ro+k*7,none⟩) (v:= .int .i64 t) (hrange 0 _ rfl)
   have y1:=cell_regrown (w:=wr) (a:=⟨rb,ro+k*7+1,none⟩) (v:= .int .i64 r) (hrange 1 _ rfl)
   clear hne hm hrange
   go_upto_region 4 with(fail)
   refine rqb ?_
   repeat(any_goals(first|go_big_quiet_step (fail)|quiet_step (fail)))
   refine qz fun wq hBq=> ?_
   go_wp2
   go_roundw
   case rel=>exact⟨k+1,by go_num,by omega,hid (HBr.out.trans (hBq.mono HBr.out.size))⟩
   case measure=>(simp[RowKit.intOf];omega)
  ·obtain rfl:k=L.length:=by omega
   have i1:¬(L.length:Int)<(L.length:Int):=by omega
   go_wp2
   go_ret
   exact⟨rfl,HBw.out⟩
theorem flat_take_succ {L:List (Grp×GrX)} {k:Nat} (h:k<L.length):(L.take (k+1)).flatMap grC_=(L.take k).flatMap grC_++grC_ (L.getD k gp0):=by
 rw[List.take_add_one,List.flatMap_append,List.getElem?_eq_getElem h,List.getD_eq_getElem?_getD,List.getElem?_eq_getElem h]
 simp
theorem refrights_any (L:List (Grp×GrX)) (A:Option Addr) (c:Nat) (S:Nat→Prop) (w:World) (hl:L.length≤100000) (hR:RowGr w A L) (hG:∀p∈L,GrG w S p) (hT:∀p∈L,∀o∈p.1.ops,o.text.size≤1000000) (hck:∀p∈L,chkB p.1=true) (hnd:(L.map (·.1.s)).Nodup):
  Calls Tryz.prog 106 #[.slice A L.length c] w fun e w'=>∃A' c',e= .returned (.slice A' L.length c')∧w'.ownsRow w.heap.size 45 7 (.slice A' L.length c') L.length (L.flatMap grC_)∧Below w.heap.size w w':=by
 obtain⟨i0,hi,hz0,hz1,hz2⟩:=info_parts infogrC_
 have HR:=hid hR
 have HG:=hid hG
 have HT:=hid hT
 have HCK:=hid hck
 have HND:=hid hnd
 clear hR hG hT hck hnd
 go_enter Tryz.func106,Tryz.ntmps106
 go_upto_region 3 with(fail)
 go_loopw [3,4] (fun o i wr=>∃(k:Nat) (A':Option Addr) (c':Nat),k≤L.length∧i= .int .i64 k∧o= .slice A' k c'∧Hid (wr.ownsRow w.heap.size 45 7 (.slice A' k c') k ((L.take k).flatMap grC_))∧Hid (Below w.heap.size w wr)) (fun o i _=>L.length-(RowKit.intOf i).toNat)
 case atStart=>exact⟨0,none,0,Nat.zero_le _,rfl,rfl,hid (World.ownsRow_nil _ _ _ _),hid (Below.refl _ _)⟩
 case round=>
  obtain⟨k,A',c',hk,rfl,rfl,HO,HBr⟩:=hrel
  by_cases hlt:k<L.length
  ·obtain⟨rb,ro,rfl,hrb,hrange⟩:=RowGr.range (RowGr.below HR.out HBr.out) hlt
   have hbw:rb<w.heap.size:=by obtain⟨b',o',e',-,hb',-⟩:=HR.out k hlt;cases e';exact hb'
   have i0':(0:Int)≤(k:Int):=by omega
   have i1:(k:Int)<(L.length:Int):=by omega
   have hsz:=HBr.out.size
   have hm:L.getD k gp0∈L:=by rw[List.getD_eq_getElem?_getD,List.getElem?_eq_getElem hlt];exact List.getElem_mem hlt
   have hgood:GrG wr S (L.getD k gp0):=(HG.out _ hm).agr (Agr.below HBr.out)
   have htx:=HT.out _ hm
   have hch:=HCK.out _ hm
   have HTK:=hid (flat_take_succ hlt)
   have hne:∀q∈L.take k,q.1.s.eqb (L.getD k gp0).1.s=false:=fun q hq=>by
    cases e:q.1.s.eqb (L.getD k gp0).1.s with
    |false=>rfl
    |true=>
     exfalso
     rw[Gst.eqb_iff] at e
     obtain⟨j,hj,rfl⟩:=List.getElem_of_mem hq
     have hjk:j<k:=by rw[List.length_take] at hj;omega
     rw[List.getElem_take] at e
     rw[List.getD_eq_getElem?_getD,List.getElem?_eq_getElem hlt] at e
     have hp:=(List.pairwise_iff_getElem.1 HND.out) j k (by rw[List.length_map];omega) (by rw[List.length_map];exact hlt) hjk
     rw[List.getElem_map,List.getElem_map] at hp
     exact hp e
   have hRt:RowGr wr A' (L.take k):=by
    have hlk:(L.take k).length=k:=by rw[List.length_take];omega
    have:=HO.out
    refine RowGr.own (c:=c') (B:=w.heap.size) (E:=45) ?_
    rw[hlk];exact this
   have hlk:(L.take k).length=k:=by rw[List.length_take];omega
   generalize L.getD k gp0=p at *
   obtain⟨⟨⟨t,r⟩,n,dv,⟨ut,ur⟩,ops⟩,⟨dA,dc,oA,oc⟩⟩:=p
   have hch:chkB ⟨⟨t,r⟩,n,dv,⟨ut,ur⟩,ops⟩=true:=hch
   have HCC:=hid (vchk_any ⟨⟨t,r⟩,n,dv,⟨ut,ur⟩,ops⟩ dA dc oA oc S wr hgood (fun _=>htx) hch)
   rw[hch,if_pos rfl] at HCC
   have HFN:=hid (fun W (hB:Below wr.heap.size wr W)=>show Calls Tryz.prog 165 #[.slice A' k c',.agg #[.int .i64 t,.int .i64 r]] W fun e w'=>e= .returned (.int .i64 (-1))∧Below W.heap.size W w' from by
    have:=reffind_none (L.take k) A' c' ⟨t,r⟩ W (by omega) (RowGr.below hRt hB) hne
    rw[hlk] at this
    exact this)
   have y0:wr.cell? ⟨rb,ro+k*7,none⟩=some (.int .i64 t):=hrange 0 _ rfl
   have y1:wr.cell? ⟨rb,ro+k*7+1,none⟩=some (.int .i64 r):=hrange 1 _ rfl
   have y2:wr.cell? ⟨rb,ro+k*7+2,none⟩=some (.int .i64 n):=hrange 2 _ rfl
   have y3:wr.cell? ⟨rb,ro+k*7+3,none⟩=some (.slice dA dv.length dc):=hrange 3 _ rfl
   have y4:wr.cell? ⟨rb,ro+k*7+4,none⟩=some (.int .i64 ut):=hrange 4 _ rfl
   have y5:wr.cell? ⟨rb,ro+k*7+5,none⟩=some (.int .i64 ur):=hrange 5 _ rfl
   have y6:wr.cell? ⟨rb,ro+k*7+6,none⟩=some (.slice oA ops.length oc):=hrange 6 _ rfl
   clear hrange hgood htx hch hm hne hRt hlk
   go_upto_region 6 with(first
    |(go_at_call 54;refine HCC.out.mono ?_;rintro e w1 ⟨rfl,hB1⟩;have HB1:=hid hB1;have z0:=(World.cell?_of_block (w:=wr) (w':=w1) (a:=⟨rb,ro+k*7,none⟩) (hB1.block rb (by omega))).trans y0;have z1:=(World.cell?_of_block (w:=wr) (w':=w1) (a:=⟨rb,ro+k*7+1,none⟩) (hB1.block rb (by omega))).trans y1;have z2:=(World.cell?_of_block (w:=wr) (w':=w1) (a:=⟨rb,ro+k*7+2,none⟩) (hB1.block rb (by omega))).trans y2;have z3:=(World.cell?_of_block (w:=wr) (w':=w1) (a:=⟨rb,ro+k*7+3,none⟩) (hB1.block rb (by omega))).trans y3;have z4:=(World.cell?_of_block (w:=wr) (w':=w1) (a:=⟨rb,ro+k*7+4,none⟩) (hB1.block rb (by omega))).trans y4;have z5:=(World.cell?_of_block (w:=wr) (w':=w1) (a:=⟨rb,ro+k*7+5,none⟩) (hB1.block rb (by omega))).trans y5;have z6:=(World.cell?_of_block (w:=wr) (w':=w1) (a:=⟨rb,ro+k*7+6,none⟩) (hB1.block rb (by omega))).trans y6;clear hB1)
    |(go_at_call 165;refine(HFN.out w1 HB1.out).mono ?_;rintro e w2 ⟨rfl,hB2⟩;have HB2:=hid (HB1.out.trans (hB2.mono HB1.out.size));have hs1:=HB1.out.size;have v0:=(World.cell?_of_block (w:=w1) (w':=w2) (a:=⟨rb,ro+k*7,none⟩) (hB2.block rb (by omega))).trans z0;have v1:=(World.cell?_of_block (w:=w1) (w':=w2) (a:=⟨rb,ro+k*7+1,none⟩) (hB2.block rb (by omega))).trans z1;have v2:=(World.cell?_of_block (w:=w1) (w':=w2) (a:=⟨rb,ro+k*7+2,none⟩) (hB2.block rb (by omega))).trans z2;have v3:=(World.cell?_of_block (w:=w1) (w':=w2) (a:=⟨rb,ro+k*7+3,none⟩) (hB2.block rb (by omega))).trans z3;have v4:=(World.cell?_of_block (w:=w1) (w':=w2) (a:=⟨rb,ro+k*7+4,none⟩) (hB2.block rb (by omega))).trans z4;have v5:=(World.cell?_of_block (w:=w1) (w':=w2) (a:=⟨rb,ro+k*7+5,none⟩) (hB2.block rb (by omega))).trans z5;have v6:=(World.cell?_of_block (w:=w1) (w':=w2) (a:=⟨rb,ro+k*7+6,none⟩) (hB2.block rb (by omega))).trans z6;clear hB2))
   have hs2:=HB2.out.size
   have HO2:=hid (HO.out.kept (gby_below (r:=none) HB2.out) (Classical.em _))
   have HBw2:=hid (HBr.out.trans (HB2.out.mono hsz))
   clear y0 y1 y2 y3 y4 y5 y6 z0 z1 z2 z3 z4 z5 z6
   go_wp2_with (at_builtin;refine wpList_append_own _ rfl _ _ 25 rfl w.heap.size 45 i0 (.agg #[.int .i64 0,.int .i64 0,.int .i64 0,.slice none 0 0,.int .i64 0,.int .i64 0,.slice none 0 0]) 7 88 Tryz.underlying25 hi hz0 hz1 hz2 rfl (by decide) _ _ _ rfl (by exact HO2.out.alloc _) ⟨w2.heap.size,0,none⟩ 1 1 [.int .i64 t,.int .i64 r,.int .i64 n,.slice dA dv.length dc,.int .i64 ut,.int .i64 ur,.slice oA ops.length oc] rfl rfl (fun j y h=>cellsN w2 [.int .i64 t,.int .i64 r,.int .i64 n,.slice dA dv.length dc,.int .i64 ut,.int .i64 ur,.slice oA ops.length oc] 45 j y h) (ocgrC_ (⟨⟨t,r⟩,n,dv,⟨ut,ur⟩,ops⟩,⟨dA,dc,oA,oc⟩)) (by unfold maxLen;omega) (by omega) (by simp;omega) ?_;intro v' w3 hown hgrow hnil)
   obtain⟨A3,c3,rfl⟩:=row_slice hown
   have HO3:=hid (show w3.ownsRow w.heap.size 45 7 (.slice A3 (k+1) c3) (k+1) ((L.take (k+1)).flatMap grC_) by rw[HTK.out];exact hown)
   have HB3:=hid ((HBw2.out.alloc HBw2.out.size _).grown hgrow (by simp;have:=HBw2.out.size;omega) (fun b hb=>HO.out.lt b hb |>.1))
   clear hown hgrow hnil
   go_roundw
   case rel=>exact⟨k+1,A3,c3,by omega,by go_num,rfl,HO3,HB3⟩
   case measure=>(simp[RowKit.intOf];omega)
  ·obtain rfl:k=L.length:=by omega
   have i1:¬(L.length:Int)<(L.length:Int):=by omega
   go_wp2
   go_ret
   refine⟨A',c',rfl,?_,HBr.out⟩
   have:=HO.out
   rw[List.take_length] at this
   exact this
theorem rvector_any (L:List (Grp×GrX)) (A:Option Addr) (c:Nat) (S:Nat→Prop) (w:World) (hl:L.length≤100000) (hR:RowGr w A L) (hG:∀p∈L,GrG w S p) (hT:∀p∈L,∀o∈p.1.ops,o.text.size≤1000000) (hck:∀p∈L,chkB p.1=true) (hnd:(L.map (·.1.s)).Nodup) (u:List Int) (hu:aheadV [] (L.map Prod.fst)=some u):
  Calls Tryz.prog 70 #[.slice A L.length c] w fun e w'=>∃A' c',e= .returned (.slice A' u.length c')∧VecS w' (fun _=>True) A' u∧u.length≤16∧Below w.heap.size w w':=by
 have HRT:=hid (refrights_any L A c S w hl hR hG hT hck hnd)
 have HU:=hid hu
 have HCK:=hid hck
 clear hR hG hT hck hnd hu
 go_enter Tryz.func70,Tryz.ntmps70
 go_upto_region 4 with(go_at_call 106;refine HRT.out.mono ?_;rintro e w1 ⟨A1,c1,rfl,hown,hB1⟩;have HR1:=hid (RowGr.own hown);have HB1:=hid hB1;clear hown hB1)
 go_loopw [3,4] (fun s i wr=>∃(k:Nat) (v:List Int) (vA:Option Addr) (vc:Nat),k≤L.length∧s= .slice vA v.length vc∧v.length≤16∧VecS wr (fun _=>True) vA v∧Hid (aheadV [] ((L.map Prod.fst).take k)=some v)∧i= .int .i64 k∧Hid (Below w1.heap.size w1 wr)) (fun s i _=>L.length-(RowKit.intOf i).toNat)
 case atStart=>exact⟨0,[],none,0,by omega,rfl,by decide,RowG.zero,hid rfl,rfl,hid (Below.refl _ _)⟩
 case round=>
  obtain⟨k,v,vA,vc,hk,rfl,hv16,hV,HV,rfl,HBr⟩:=hrel
  by_cases hlt:k<L.length
  ·have i0:(0:Int)≤(k:Int):=by omega
   have i1:(k:Int)<(L.length:Int):=by omega
   obtain⟨rb,ro,rfl,hrb,hrange⟩:=RowGr.range (RowGr.below HR1.out HBr.out) hlt
   have hsz:=HBr.out.size
   have hm:L.getD k gp0∈L:=by rw[List.getD_eq_getElem?_getD,List.getElem?_eq_getElem hlt];exact List.getElem_mem hlt
   have hch:=HCK.out _ hm
   have hgd:=getD_fst' L k
   obtain⟨x5,k1,k2,k3,k4,k5⟩:=aheadV_take _ _ _ HU.out k (by rw[List.length_map];exact hlt)
   obtain rfl:x5=v:=by rw[HV.out] at k1;exact(Option.some.inj k1).symm
   rw[←hgd] at k2 k3 k4 k5
   generalize L.getD k gp0=p at *
   obtain⟨⟨⟨t,r⟩,n,dv,⟨ut,ur⟩,ops⟩,⟨dA,dc,oA,oc⟩⟩:=p
   clear hgd hm k1 k3
   obtain⟨c1',c2,c3,-⟩:=chk_right k2
   have hr:=right_r c1'
   have hr1:1≤r:=hr.1
   have hr2:r≤16:=hr.2
   have hn1:1≤n:=c2
   have hn2:n≤1099511627776:=c3
   have k4:atV x5 r=n-1:=k4
   have K5:=hid (show aheadV [] ((L.map Prod.fst).take (k+1))=some (withV x5 r n) from k5)
   have HAT:=hid (fun W (hB:Below wr.heap.size wr W)=>refat_any vA vc x5 r W (by omega) (VecS.vec (RowG.agr hV (Agr.below hB))))
   have HWI:=hid (fun W (hB:Below wr.heap.size wr W)=>refwith_any vA vc x5 r n W (by omega) hr1 hr2 (VecS.vec (RowG.agr hV (Agr.below hB))))
   rw[k4] at HAT
   have q1:max n (n-1)=n:=by omega
   have y1:=cell_regrown (w:=wr) (a:=⟨rb,ro+k*7+1,none⟩) (v:= .int .i64 r) (hrange 1 _ rfl)
   have y2:=cell_regrown (w:=wr) (a:=⟨rb,ro+k*7+2,none⟩) (v:= .int .i64 n) (hrange 2 _ rfl)
   have HY1:=hid (show wr.cell? ⟨rb,ro+k*7+1,none⟩=some (.int .i64 r) from hrange 1 _ rfl)
   clear k2 k4 k5 c1' c2 c3 hr hch hrange
   have cC:∀d os,Calls Tryz.prog 55 #[.slice vA x5.length vc,.int .i64 r] (grow (redrawn wr d) os) fun e w''=>e= .returned (.int .i64 (n-1))∧∃p:Regrown,w''=grow (redrawn wr p.d) p.os:=fun d os=>Calls.regrown_of ((HAT.out (grow (redrawn wr d) os) (below_regrown wr d os)).mono (by rintro e w' ⟨rfl,rfl⟩;exact⟨rfl,Below.refl _ _⟩))
   go_upto_region 6 with(fail)
   refine rqb ?_
   repeat(any_goals(first|go_big_quiet_step (with_reducible exact cC _ _)|quiet_step (with_reducible exact cC _ _)))
   refine qz fun wq hBq=> ?_
   have z1:=(World.cell?_of_block (w:=wr) (w':=wq) (a:=⟨rb,ro+k*7+1,none⟩) (hBq.block rb hrb)).trans HY1.out
   have HBq:=hid hBq
   clear y1 y2 cC hBq
   go_wp2_with (go_at_call 56;refine(HWI.out wq HBq.out).mono ?_;rintro e w9 ⟨hB9,A9,c9,rfl,hv9,hc9,hm9⟩)
   have hl9:=withV_len x5 r n hv16 hr2
   go_roundw
   case rel=>exact⟨k+1,withV x5 r n,A9,c9,by omega,rfl,hl9,RowG.sub hv9 (fun _ _ _=>trivial),K5,by go_num,hid (HBr.out.trans ((HBq.out.trans (hB9.mono HBq.out.size)).mono hsz))⟩
   case measure=>(simp[RowKit.intOf];omega)
  ·obtain rfl:k=L.length:=by omega
   have i1:¬(L.length:Int)<(L.length:Int):=by omega
   have hvu:v=u:=by
    have:=HV.out
    rw[List.take_of_length_le (by rw[List.length_map];exact Nat.le_refl _),HU.out] at this
    exact(Option.some.inj this).symm
   subst hvu
   go_wp2
   go_ret
   exact⟨vA,⟨vc,rfl⟩,hV,HB1.out.trans (HBr.out.mono HB1.out.size)⟩
end
section
open Go.RowKit Go.Lib Go.Sort
set_option linter.unusedVariables false
structure RbX where
 dv:Value
 wv:Value
 L:List (Grp×GrX)
 M:List (Grp×GrX)
def OwnR (P:Nat) (X:RbX) (k:Nat):Prop:=k=P∨X.dv.ownBlock=some k∨X.wv.ownBlock=some k
structure RbIn (B P:Nat) (S:Nat→Prop) (dn wt:List Grp) (X:RbX) (w:World):Prop where
 obj:w.heap[P]? =some (.cells #[X.dv,X.wv] 65 (0,0))
 done:w.ownsRow B 45 7 X.dv X.L.length (X.L.flatMap grC_)
 wait:w.ownsRow B 45 7 X.wv X.M.length (X.M.flatMap grC_)
 dl:X.L.map Prod.fst=dn
 wl:X.M.map Prod.fst=wt
 good:∀p∈X.L++X.M,GrG w S p
 hP:B≤P
 dP:X.dv.ownBlock≠some P
 wP:X.wv.ownBlock≠some P
 dw:∀g,X.dv.ownBlock=some g→X.wv.ownBlock≠some g
 sep:∀k,S k→k<w.heap.size∧¬OwnR P X k
structure RbTo (P:Nat) (X:RbX) (w:World) (X':RbX) (w':World):Prop where
 gr:GrB (OwnR P X) w w'
 own:∀k,OwnR P X' k→OwnR P X k∨w.heap.size≤k
section
variable {B P : Nat} {S : Nat → Prop} {dn wt : List Grp} {X X' X'' : RbX} {w w' w'' : World}
theorem RbTo.trans (h:RbTo P X w X' w') (k:RbTo P X' w' X'' w''):RbTo P X w X'' w'':=
 ⟨h.gr.trans k.gr fun i hi e=>(h.own i e).resolve_right (by omega),fun i hi=>by
  rcases k.own i hi with h1|h1
  ·exact h.own i h1
  ·exact .inr (Nat.le_trans h.gr.size h1)⟩
theorem RbTo.of_below (h:Below w.heap.size w w'):RbTo P X w X w':=⟨GrB.of_below h,fun _ h=> .inl h⟩
theorem RbIn.own_lt (h:RbIn B P S dn wt X w) {k:Nat} (hk:OwnR P X k):B≤k∧k<w.heap.size:=by
 rcases hk with rfl|hk|hk
 ·exact⟨h.hP,lt_of_block h.obj⟩
 ·exact h.done.lt k hk
 ·exact h.wait.lt k hk
theorem RbIn.below (h:RbIn B P S dn wt X w) (hb:Below w.heap.size w w'):RbIn B P S dn wt X w':=by
 have hg:=gby_below (r:=none) hb
 exact⟨(hb.block P (lt_of_block h.obj)).trans h.obj,h.done.kept hg (Classical.em _),h.wait.kept hg (Classical.em _),h.dl,h.wl,fun p hp=>(h.good p hp).agr (Agr.below hb),h.hP,h.dP,h.wP,h.dw,fun k hk=>⟨Nat.lt_of_lt_of_le (h.sep k hk).1 hb.size,(h.sep k hk).2⟩⟩
theorem RbIn.cell (h:RbIn B P S dn wt X w) (i:Nat):w.cell? ⟨P,i,none⟩=#[X.dv,X.wv][i]? :=cell_of_row _ _ _ _ _ _ h.obj
theorem RbIn.dlen (h:RbIn B P S dn wt X w):X.L.length=dn.length:=by rw[←h.dl,List.length_map]
theorem RbIn.wlen (h:RbIn B P S dn wt X w):X.M.length=wt.length:=by rw[←h.wl,List.length_map]
def NewAt (u u':Value) (n:Nat):Prop:=u'.ownBlock=u.ownBlock∨∀k,u'.ownBlock=some k→n≤k
theorem NewAt.ne {u u':Value} {n P:Nat} (hat:NewAt u u' n) (h:u.ownBlock≠some P) (hP:P<n):u'.ownBlock≠some P:=by
 rcases hat with e|e
 ·rw[e];exact h
 ·intro e2;have:=e P e2;omega
theorem RbIn.dset (h:RbIn B P S dn wt X w) {w1 w3:World} {dv':Value} {L':List (Grp×GrX)} (hb:Below w.heap.size w w1) (hg:w1.grownBy w3 X.dv.ownBlock) (hown:w3.ownsRow B 45 7 dv' L'.length (L'.flatMap grC_))
  (hat:NewAt X.dv dv' w.heap.size) (hgood:∀p∈L',GrG w S p):
  RbIn B P S (L'.map Prod.fst) wt { X with dv:=dv',L:=L' } (w3.setCell ⟨P,0,none⟩ dv')∧RbTo P X w { X with dv:=dv',L:=L' } (w3.setCell ⟨P,0,none⟩ dv'):=by
 have hPl:=lt_of_block h.obj
 have h1:=h.below hb
 have hs1:=hb.size
 have hS:∀g,X.dv.ownBlock=some g→¬S g:=fun g e hS=>(h.sep g hS).2 (.inr (.inl e))
 have hPS:¬S P:=fun hs=>(h.sep P hs).2 (.inl rfl)
 have ha:Agr S w (w3.setCell ⟨P,0,none⟩ dv'):=((Agr.below hb).trans (Agr.grown hg hS)).trans (agr_setCell w3 P 0 dv' hPS)
 have hgr:GrB (OwnR P X) w (w3.setCell ⟨P,0,none⟩ dv'):=((GrB.of_below hb).grown hg (fun g e _=> .inr (.inl e))).set P 0 dv' (fun _=> .inl rfl)
 have hown':∀k,OwnR P { X with dv:=dv',L:=L' } k→OwnR P X k∨w.heap.size≤k:=fun k hk=>by
  rcases hk with e|e|e
  ·exact .inl (.inl e)
  ·have e:dv'.ownBlock=some k:=e
   rcases hat with e3|e3
   ·exact .inl (.inr (.inl (e3.symm.trans e)))
   ·exact .inr (e3 k e)
  ·exact .inl (.inr (.inr e))
 refine⟨⟨set_obj (c:=#[X.dv,X.wv]) ((hg.block P (by omega) (fun e=>h.dP e.symm)).trans h1.obj) 0 dv' rfl,own_set hown (hat.ne h.dP hPl) 0 dv',own_set (h1.wait.kept hg (kept_or h.dw)) h.wP 0 dv',rfl,h.wl,?_,h.hP,hat.ne h.dP hPl,h.wP,?_,?_⟩,⟨hgr,hown'⟩⟩
 ·intro q hq
  rcases List.mem_append.1 hq with hq|hq
  ·exact(hgood q hq).agr ha
  ·exact(h.good q (List.mem_append.2 (.inr hq))).agr ha
 ·intro g e e2
  have e:dv'.ownBlock=some g:=e
  rcases hat with e3|e3
  ·rw[e3] at e;exact h.dw g e e2
  ·have:=e3 g e;have:=(h.wait.lt g e2).2;omega
 ·intro k hk
  have h3:=h.sep k hk
  exact⟨Nat.lt_of_lt_of_le h3.1 hgr.size,fun ho=>(hown' k ho).elim h3.2 (by omega)⟩
theorem RbIn.wset (h:RbIn B P S dn wt X w) {w1 w3:World} {wv':Value} {M':List (Grp×GrX)} (hb:Below w.heap.size w w1) (hg:w1.grownBy w3 X.wv.ownBlock) (hown:w3.ownsRow B 45 7 wv' M'.length (M'.flatMap grC_))
  (hat:NewAt X.wv wv' w.heap.size) (hgood:∀p∈M',GrG w S p):
  RbIn B P S dn (M'.map Prod.fst) { X with wv:=wv',M:=M' } (w3.setCell ⟨P,1,none⟩ wv')∧RbTo P X w { X with wv:=wv',M:=M' } (w3.setCell ⟨P,1,none⟩ wv'):=by
 have hPl:=lt_of_block h.obj
 have h1:=h.below hb
 have hs1:=hb.size
 have hS:∀g,X.wv.ownBlock=some g→¬S g:=fun g e hS=>(h.sep g hS).2 (.inr (.inr e))
 have hPS:¬S P:=fun hs=>(h.sep P hs).2 (.inl rfl)
 have ha:Agr S w (w3.setCell ⟨P,1,none⟩ wv'):=((Agr.below hb).trans (Agr.grown hg hS)).trans (agr_setCell w3 P 1 wv' hPS)
 have hgr:GrB (OwnR P X) w (w3.setCell ⟨P,1,none⟩ wv'):=((GrB.of_below hb).grown hg (fun g e _=> .inr (.inr e))).set P 1 wv' (fun _=> .inl rfl)
 have hown':∀k,OwnR P { X with wv:=wv',M:=M' } k→OwnR P X k∨w.heap.size≤k:=fun k hk=>by
  rcases hk with e|e|e
  ·exact .inl (.inl e)
  ·exact .inl (.inr (.inl e))
  ·have e:wv'.ownBlock=some k:=e
   rcases hat with e3|e3
   ·exact .inl (.inr (.inr (e3.symm.trans e)))
   ·exact .inr (e3 k e)
 refine⟨⟨set_obj (c:=#[X.dv,X.wv]) ((hg.block P (by omega) (fun e=>h.wP e.symm)).trans h1.obj) 1 wv' rfl,own_set (h1.done.kept hg (kept_or (fun g e e2=>h.dw g e2 e))) h.dP 1 wv',own_set hown (hat.ne h.wP hPl) 1 wv',h.dl,rfl,?_,h.hP,h.dP,hat.ne h.wP hPl,?_,?_⟩,⟨hgr,hown'⟩⟩
 ·intro q hq
  rcases List.mem_append.1 hq with hq|hq
  ·exact(h.good q (List.mem_append.2 (.inl hq))).agr ha
  ·exact(hgood q hq).agr ha
 ·intro g e e2
  have e2:wv'.ownBlock=some g:=e2
  rcases hat with e3|e3
  ·rw[e3] at e2;exact h.dw g e e2
  ·have:=e3 g e2;have:=(h.done.lt g e).2;omega
 ·intro k hk
  have h3:=h.sep k hk
  exact⟨Nat.lt_of_lt_of_le h3.1 hgr.size,fun ho=>(hown' k ho).elim h3.2 (by omega)⟩
structure RbOk (b:Bx):Prop where
 ok:BxOk b
 txt:∀g∈b.done++b.wait,∀o∈g.ops,o.text.size≤1000000
 len:b.done.length+b.wait.length≤100000
end
theorem rbvec_any {B P:Nat} {S:Nat→Prop} {b:Bx} {X:RbX} {w:World} (h:RbIn B P S b.done b.wait X w) (ho:RbOk b):
  Calls Tryz.prog 35 #[.pointer (some ⟨P,0,none⟩)] w fun e w'=>∃A' c',e= .returned (.slice A' b.v.length c')∧VecS w' (fun _=>True) A' b.v∧b.v.length≤16∧Below w.heap.size w w':=by
 obtain⟨A0,c0,hv⟩:=row_slice h.done
 have hO:=h.done
 rw[hv] at hO
 have hln:=ho.len
 have hm:∀p∈X.L,p.1∈b.done:=fun p hp=>by rw[←h.dl];exact List.mem_map.2 ⟨p,hp,rfl⟩
 have HV:=hid (rvector_any X.L A0 c0 S w (by rw[h.dlen];omega) (RowGr.own hO) (fun p hp=>h.good p (List.mem_append.2 (.inl hp))) (fun p hp=>ho.txt p.1 (List.mem_append.2 (.inl (hm p hp)))) (fun p hp=>ho.ok.chk p.1 (List.mem_append.2 (.inl (hm p hp)))) (by
  have:=ho.ok.apart
  rw[List.map_append,List.nodup_append] at this
  have h1:=this.1
  rw[←h.dl,List.map_map] at h1
  exact h1) b.v (by rw[h.dl];exact ho.ok.ahead))
 have d0:w.cell? ⟨P,0,none⟩=some (.slice A0 X.L.length c0):=by rw[h.cell,←hv];rfl
 obtain⟨n,hn⟩:∃n,n=X.L.length:=⟨_,rfl⟩
 rw[←hn] at HV d0
 clear h hO hv ho hm hln hn
 go_enter Tryz.func35,Tryz.ntmps35
 go_wp2_with (go_at_call 70;refine HV.out.mono ?_;rintro e w1 ⟨A1,c1,rfl,hv1,hl1,hB1⟩)
 go_ret
 exact⟨A1,c1,rfl,hv1,hl1,hB1⟩
end
end Go.Proofs.YtkhmicndehlneaaGreatDoor
