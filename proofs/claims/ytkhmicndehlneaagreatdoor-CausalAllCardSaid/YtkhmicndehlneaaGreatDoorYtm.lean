/- Part 13 of the walks and plain laws that this claim uses, joined. Conditions: as each theorem states. -/
import Derived.Test.YtkhmicndehlneaaGreatDoorYtl
namespace Go.Proofs.YtkhmicndehlneaaGreatDoor
set_option maxRecDepth 100000
set_option maxHeartbeats 16000000
section
open Go.RowKit Go.Lib Go.Sort
set_option linter.unusedVariables false
attribute [local go_sem ↓] Go.wp_at_zero Go.wp_at_succ
theorem drainF_len:∀(f:Nat) (b:Bx),(drainF f b).1.wait.length≤b.wait.length∧(drainF f b).1.done.length+(drainF f b).1.wait.length≤b.done.length+b.wait.length
 |0,b=>⟨Nat.le_refl _,Nat.le_refl _⟩
 | f+1,b=>by
  cases hb:bestN b.v b.wait b.wait.length with
  |none=>rw[drainF_none hb];exact⟨Nat.le_refl _,Nat.le_refl _⟩
  | some k=>
   have hk:=(bestN_lt hb).1
   have hl:(b.wait.eraseIdx k).length=b.wait.length-1:=by rw[List.length_eraseIdx,if_pos hk]
   cases ho:oldB b.v (b.wait.getD k gz) with
   |true=>
    rw[drainF_old hb ho]
    have:=drainF_len f ⟨b.done,b.wait.eraseIdx k,b.v⟩
    simp only[hl] at this
    omega
   |false=>
    rw[drainF_put hb ho]
    have:=drainF_len f (Bx.put ⟨b.done,b.wait.eraseIdx k,b.v⟩ (b.wait.getD k gz))
    simp only[Bx.put,List.length_append,List.length_singleton,hl] at this
    simp only[Bx.put]
    omega
theorem drainF_cnt:∀(f:Nat) (b:Bx),(drainF f b).2≤f
 |0,b=>Nat.le_refl _
 | f+1,b=>by
  cases hb:bestN b.v b.wait b.wait.length with
  |none=>rw[drainF_none hb];exact Nat.zero_le _
  |some k=>
   cases ho:oldB b.v (b.wait.getD k gz) with
   |true=>rw[drainF_old hb ho];exact Nat.le_succ_of_le (drainF_cnt f _)
   |false=>rw[drainF_put hb ho];exact Nat.succ_le_succ (drainF_cnt f _)
theorem range_of_block {W:World} {g:Nat} {l:List Value} {T:TypeId} (h:W.heap[g]? =some (.cells l.toArray T (0,0))):W.rangeAt g 0 l:=fun j v hv=>by
 rw[Nat.zero_add,cell_of_row _ _ _ _ _ _ h,List.getElem?_toArray];exact hv
theorem hearB_len (b:Bx) (g:Grp) (h:b.wait.length≤100):(hearB b g).1.wait.length≤100∧(hearB b g).1.done.length+(hearB b g).1.wait.length≤b.done.length+b.wait.length+1:=by
 unfold hearB
 split
 ·exact⟨h,Nat.le_succ _⟩
 ·split
  ·exact⟨h,Nat.le_succ _⟩
  ·split
   ·have:=drainF_len b.wait.length (b.put g)
    simp only[Bx.put,List.length_append,List.length_singleton] at this
    simp only[Bx.put]
    omega
   ·split
    ·exact⟨h,Nat.le_succ _⟩
    ·simp only[List.length_append,List.length_singleton];omega
theorem bxhear_any {B P:Nat} {S:Nat→Prop} {b:Bx} {X:BoxX} {w:World} (h:BoxIn B P S b.done b.done b.wait b.v X w) (hok:BxOk b) (g:Grp) (x:GrX) (hG:GrG w S (g,x)) (hT1:∀o∈g.ops,o.text.size<9223372036854775807) (hTb:Tabs w) (hwl:b.wait.length≤100) (hlen:b.done.length+b.wait.length≤999999):
  Calls Tryz.prog 20 #[.pointer (some ⟨P,0,none⟩),.agg (grA g x.dA x.dc x.oA x.oc)] w fun e w'=>e= .returned (.tuple #[.int .i64 ((hearB b g).2.1:Nat),.int .i64 (hearB b g).2.2])∧∃X' S',BoxIn B P S' (hearB b g).1.done (hearB b g).1.done (hearB b g).1.wait (hearB b g).1.v X' w'∧BTo P X S w X' S' w':=by
 obtain⟨i0,hi,hz0,hz1,hz2⟩:=info_parts infogrC_
 obtain⟨R,hR⟩:∃R,R=hearB b g:=⟨_,rfl⟩
 rw[←hR]
 obtain⟨GA,hGA⟩:∃l,l=grL g x:=⟨_,rfl⟩
 have HAG:=hid (show grA g x.dA x.dc x.oA x.oc=GA.toArray by rw[hGA];rfl)
 have HGA7:=hid (show GA.length=7 by rw[hGA];rfl)
 have HG1:=hid (show ∀u∈GA,u.oneCell'=true by rw[hGA];exact ocgrC_ (g,x))
 have HGL:=hid hGA
 have HINF:=hid (show(Tryz.prog.info? 45).map (·.size)=some GA.length by rw[HGA7.out];kernel_rfl)
 have hba:Below w.heap.size w (w.alloc (.cells GA.toArray 45)):=(Below.refl _ _).alloc (Nat.le_refl _) _
 have HC:=hid (heap_alloc_new w (.cells GA.toArray 45))
 have HCK:=hid (fun W (hB:Below w.heap.size w W)=>check_any g x.dA x.dc x.oA x.oc S W (GrIn.agr hG (Agr.below hB)) hT1 (hTb.below hB))
 have HX:=hid h
 have HOK:=hid hok
 have HGG:=hid hG
 rw[HAG.out] at HCK ⊢
 clear hT1 hTb hGA
 have HBA:=hid hba
 have HXW:=hid (h.below hba)
 have HOL:=hid (fun q hq=>(h.own_lt (k:=q) hq).2)
 clear hba h hok hG
 cases hck:chkB g with
 | false=>
  obtain rfl:R=(b,0,80):=by rw[hR];unfold hearB;rw[if_pos hck]
  rw[hck] at HCK
  have HCK2:Hid (∀W,Below w.heap.size w W→Calls Tryz.prog 48 #[.agg GA.toArray] W fun e w'=>e= .returned (.int .i64 80)∧Below W.heap.size W w'):=HCK
  clear HCK hck hR
  go_enter Tryz.func20,Tryz.ntmps20
  go_upto_region 1 with fail
  generalize hW:w.alloc (.cells GA.toArray 45)=W at *
  clear hW
  go_wp2_with (first
   |(refine load_at rfl _ _ rfl w.heap.size _ _ _ rfl HC.out Tryz.underlying45 rfl HINF.out ?_)
   |(go_at_call 48;refine(HCK2.out _ HBA.out).mono ?_;rintro e w1 ⟨rfl,hB1⟩))
  go_ret2
  exact⟨rfl,X,S,HXW.out.below hB1,(BTo.of_below HBA.out).trans (BTo.of_below hB1)⟩
 | true=>
  rw[hck] at HCK
  have HCK2:Hid (∀W,Below w.heap.size w W→Calls Tryz.prog 48 #[.agg GA.toArray] W fun e w'=>e= .returned (.int .i64 0)∧Below W.heap.size W w'):=HCK
  clear HCK
  have hgr:=(chk_right hck).1
  obtain⟨kn,hkn⟩:∃k,k=knownB b g:=⟨_,rfl⟩
  have HKN:=hid (fun W (hB:Below w.heap.size w W)=>(show Calls Tryz.prog 49 #[.pointer (some ⟨P,0,none⟩),.agg GA.toArray] W fun e w'=>e= .returned (.bool kn)∧Below W.heap.size W w' by
   rw[hkn,←HAG.out];exact bxknown_any (S2:=S) (HX.out.below hB) g x (fun d hd=>(chk_right (HOK.out.chk d (List.mem_append.2 (.inl hd)))).1) hgr (by omega)))
  cases kn with
  | true=>
   obtain rfl:R=(b,0,210):=by rw[hR];unfold hearB;rw[if_neg (by rw[hck];decide),if_pos hkn.symm]
   clear hck hkn hR hgr
   go_enter Tryz.func20,Tryz.ntmps20
   go_upto_region 1 with fail
   generalize hW:w.alloc (.cells GA.toArray 45)=W at *
   clear hW
   go_wp2_with (first
    |(refine load_at rfl _ _ rfl w.heap.size _ _ _ rfl HC.out Tryz.underlying45 rfl HINF.out ?_)
    |(refine load_at rfl _ _ rfl w.heap.size _ _ _ rfl HC1.out Tryz.underlying45 rfl HINF.out ?_)
    |(go_at_call 48;refine(HCK2.out _ HBA.out).mono ?_;rintro e w1 ⟨rfl,hB1⟩;have HC1:=hid ((hB1.block w.heap.size (lt_of_block HC.out)).trans HC.out);have HB1:=hid (HBA.out.trans (hB1.mono HBA.out.size));clear hB1)
    |(go_at_call 49;refine(HKN.out _ HB1.out).mono ?_;rintro e w2 ⟨rfl,hB2⟩))
   go_ret2
   exact⟨rfl,X,S,(HX.out.below HB1.out).below hB2,(BTo.of_below HB1.out).trans (BTo.of_below hB2)⟩
  | false=>
   obtain⟨hold,hnew⟩:=not_known hkn.symm
   have hdl:=chk_dl hck
   obtain⟨rd,hrd⟩:∃r,r=readyB b.v g:=⟨_,rfl⟩
   have HRD:=hid (fun W (hB:Below w.heap.size w W)=>(show Calls Tryz.prog 50 #[.pointer (some ⟨P,0,none⟩),.agg GA.toArray] W fun e w'=>e= .returned (.bool rd)∧Below W.heap.size W w' by
    rw[hrd,←HAG.out];exact bxready_any (HX.out.below hB) g x (HGG.out.agr (Agr.below hB)) hdl))
   cases rd with
   | true=>
    obtain⟨D,hD⟩:∃D,D=drainF b.wait.length (b.put g):=⟨_,rfl⟩
    obtain rfl:R=(D.1,D.2+1,0):=by rw[hR,hD];unfold hearB;rw[if_neg (by rw[hck];decide),if_neg (by rw[←hkn];decide),if_pos hrd.symm]
    have HPOK:=hid (HOK.out.put hck hrd.symm hold hnew)
    have HDE:=hid (fun W (hB:Below w.heap.size w W)=>(show Calls Tryz.prog 51 #[.pointer (some ⟨P,0,none⟩),.agg GA.toArray] W fun e w'=>e= .returned (.tuple #[])∧∃X' S',BoxIn B P S' (b.done++[g]) (b.done++[g]) b.wait (withV b.v g.s.r g.n) X' w'∧BTo P X S W X' S' w' by
     rw[←HAG.out];exact bxdeliver_any (HX.out.below hB) g x (HGG.out.agr (Agr.below hB)) hgr (by omega) (by omega)))
    have HDR:=hid (fun X1 S1 W (hX1:BoxIn B P S1 (b.done++[g]) (b.done++[g]) b.wait (withV b.v g.s.r g.n) X1 W)=>(show Calls Tryz.prog 52 #[.pointer (some ⟨P,0,none⟩)] W fun e w'=>e= .returned (.int .i64 (D.2:Nat))∧∃X' S',BoxIn B P S' D.1.done D.1.done D.1.wait D.1.v X' w'∧BTo P X1 S1 W X' S' w' by
     rw[hD];exact bxdrain_any (b:=b.put g) hX1 HPOK.out (by show b.wait.length≤1000;omega) (by show(b.done++[g]).length+b.wait.length≤_;rw[List.length_append,List.length_singleton];omega)))
    obtain⟨nd,hnd⟩:∃n,n=D.2:=⟨_,rfl⟩
    have hnl:nd≤1000000:=by rw[hnd,hD];exact Nat.le_trans (drainF_cnt _ _) (by omega)
    rw[←hnd] at HDR ⊢
    clear hck hkn hR hgr hold hnew hrd hdl hnd hD
    go_enter Tryz.func20,Tryz.ntmps20
    go_upto_region 1 with fail
    generalize hW:w.alloc (.cells GA.toArray 45)=W at *
    clear hW
    go_wp2_with (first
     |(refine load_at rfl _ _ rfl w.heap.size _ _ _ rfl HC.out Tryz.underlying45 rfl HINF.out ?_)
     |(refine load_at rfl _ _ rfl w.heap.size _ _ _ rfl HC1.out Tryz.underlying45 rfl HINF.out ?_)
     |(refine load_at rfl _ _ rfl w.heap.size _ _ _ rfl HC2.out Tryz.underlying45 rfl HINF.out ?_)
     |(refine load_at rfl _ _ rfl w.heap.size _ _ _ rfl HC3.out Tryz.underlying45 rfl HINF.out ?_)
     |(go_at_call 48;refine(HCK2.out _ HBA.out).mono ?_;rintro e w1 ⟨rfl,hB1⟩;have HC1:=hid ((hB1.block w.heap.size (lt_of_block HC.out)).trans HC.out);have HB1:=hid (HBA.out.trans (hB1.mono HBA.out.size));clear hB1)
     |(go_at_call 49;refine(HKN.out _ HB1.out).mono ?_;rintro e w2 ⟨rfl,hB2⟩;have HC2:=hid ((hB2.block w.heap.size (lt_of_block HC1.out)).trans HC1.out);have HB2:=hid (HB1.out.trans (hB2.mono HB1.out.size));clear hB2)
     |(go_at_call 50;refine(HRD.out _ HB2.out).mono ?_;rintro e w3 ⟨rfl,hB3⟩;have HC3:=hid ((hB3.block w.heap.size (lt_of_block HC2.out)).trans HC2.out);have HB3:=hid (HB2.out.trans (hB3.mono HB2.out.size));clear hB3)
     |(go_at_call 51;refine(HDE.out _ HB3.out).mono ?_;rintro e w4 ⟨rfl,X4,S4,hX4,hT4⟩;have HX4:=hid hX4;have HT4:=hid ((BTo.of_below HB3.out).trans hT4);clear hX4 hT4)
     |(go_at_call 52;refine(HDR.out X4 S4 _ HX4.out).mono ?_;rintro e w5 ⟨rfl,X5,S5,hX5,hT5⟩))
    go_ret2
    exact⟨by rw[Int.natCast_add,Int.add_comm];rfl,X5,S5,hX5,HT4.out.trans hT5⟩
   | false=>
    have hw:b.wait.length=X.M.length:=HX.out.wlen.symm
    obtain⟨wA,wc,hwv⟩:=row_slice HX.out.wait
    have HWV:=hid hwv
    by_cases hfull:100≤b.wait.length
    ·obtain rfl:R=(b,0,211):=by rw[hR];unfold hearB;rw[if_neg (by rw[hck];decide),if_neg (by rw[←hkn];decide),if_neg (by rw[←hrd];decide),if_pos hfull]
     have HPW:=hid (fun W (hB:Below w.heap.size w W)=>(show W.cell? ⟨P,1,none⟩=some (.slice wA X.M.length wc) by rw[(HX.out.below hB).cell,HWV.out];rfl))
     have i1:(100:Int)≤(X.M.length:Int):=by omega
     clear hck hkn hR hgr hold hnew hrd hdl hw hwv hfull
     go_enter Tryz.func20,Tryz.ntmps20
     go_upto_region 1 with fail
     generalize hW:w.alloc (.cells GA.toArray 45)=W at *
     clear hW
     go_wp2_with (first
      |(refine load_at rfl _ _ rfl w.heap.size _ _ _ rfl HC.out Tryz.underlying45 rfl HINF.out ?_)
      |(refine load_at rfl _ _ rfl w.heap.size _ _ _ rfl HC1.out Tryz.underlying45 rfl HINF.out ?_)
      |(refine load_at rfl _ _ rfl w.heap.size _ _ _ rfl HC2.out Tryz.underlying45 rfl HINF.out ?_)
      |(go_at_call 48;refine(HCK2.out _ HBA.out).mono ?_;rintro e w1 ⟨rfl,hB1⟩;have HC1:=hid ((hB1.block w.heap.size (lt_of_block HC.out)).trans HC.out);have HB1:=hid (HBA.out.trans (hB1.mono HBA.out.size));clear hB1)
      |(go_at_call 49;refine(HKN.out _ HB1.out).mono ?_;rintro e w2 ⟨rfl,hB2⟩;have HC2:=hid ((hB2.block w.heap.size (lt_of_block HC1.out)).trans HC1.out);have HB2:=hid (HB1.out.trans (hB2.mono HB1.out.size));clear hB2)
      |(go_at_call 50;refine(HRD.out _ HB2.out).mono ?_;rintro e w3 ⟨rfl,hB3⟩;have HB3:=hid (HB2.out.trans (hB3.mono HB2.out.size));have p3:=HPW.out _ HB3.out;clear hB3))
     go_ret2
     exact⟨rfl,X,S,HX.out.below HB3.out,BTo.of_below HB3.out⟩
    ·obtain rfl:R=(⟨b.done,b.wait++[g],b.v⟩,0,0):=by rw[hR];unfold hearB;rw[if_neg (by rw[hck];decide),if_neg (by rw[←hkn];decide),if_neg (by rw[←hrd];decide),if_neg hfull]
     have HPW:=hid (fun W (hB:Below w.heap.size w W)=>(show W.cell? ⟨P,1,none⟩=some (.slice wA X.M.length wc) by rw[(HX.out.below hB).cell,HWV.out];rfl))
     have i1:¬(100:Int)≤(X.M.length:Int):=by omega
     have i1d:decide ((100:Int)≤(X.M.length:Int))=false:=decide_eq_false i1
     have hml:X.M.length≤100:=by omega
     clear hck hkn hR hgr hold hnew hrd hdl hw hwv hfull
     go_enter Tryz.func20,Tryz.ntmps20
     go_upto_region 1 with fail
     generalize hW:w.alloc (.cells GA.toArray 45)=W at *
     clear hW
     go_upto_region 11 with(first
      |(refine load_at rfl _ _ rfl w.heap.size _ _ _ rfl HC.out Tryz.underlying45 rfl HINF.out ?_)
      |(refine load_at rfl _ _ rfl w.heap.size _ _ _ rfl HC1.out Tryz.underlying45 rfl HINF.out ?_)
      |(refine load_at rfl _ _ rfl w.heap.size _ _ _ rfl HC2.out Tryz.underlying45 rfl HINF.out ?_)
      |(go_at_call 48;refine(HCK2.out _ HBA.out).mono ?_;rintro e w1 ⟨rfl,hB1⟩;have HC1:=hid ((hB1.block w.heap.size (lt_of_block HC.out)).trans HC.out);have HB1:=hid (HBA.out.trans (hB1.mono HBA.out.size));clear hB1)
      |(go_at_call 49;refine(HKN.out _ HB1.out).mono ?_;rintro e w2 ⟨rfl,hB2⟩;have HC2:=hid ((hB2.block w.heap.size (lt_of_block HC1.out)).trans HC1.out);have HB2:=hid (HB1.out.trans (hB2.mono HB1.out.size));clear hB2)
      |(go_at_call 50;refine(HRD.out _ HB2.out).mono ?_;rintro e w3 ⟨rfl,hB3⟩;have HC3:=hid ((hB3.block w.heap.size (lt_of_block HC2.out)).trans HC2.out);have HB3:=hid (HB2.out.trans (hB3.mono HB2.out.size));have p3:=HPW.out _ HB3.out;clear hB3))
     have HX3:=hid (HX.out.below HB3.out)
     have HG3:=hid (HGG.out.agr (Agr.below HB3.out))
     have hw3:w.heap.size<w3.heap.size:=lt_of_block HC3.out
     have hP3:P<w3.heap.size:=lt_of_block HX3.out.obj
     have hPn:P<w.heap.size:=HOL.out P (.inl rfl)
     have hPB:B≤P:=HX3.out.hP
     obtain⟨⟨t,r⟩,n,u,⟨ut,ur⟩,ops⟩:=g
     obtain⟨dA,dc,oA,oc⟩:=x
     have hga:GA=[.int .i64 t,.int .i64 r,.int .i64 n,.slice dA u.length dc,.int .i64 ut,.int .i64 ur,.slice oA ops.length oc]:=HGL.out
     subst hga
     have HGL:=hid (show[.int .i64 t,.int .i64 r,.int .i64 n,.slice dA u.length dc,.int .i64 ut,.int .i64 ur,.slice oA ops.length oc]=grC_ (⟨⟨t,r⟩,n,u,⟨ut,ur⟩,ops⟩,⟨dA,dc,oA,oc⟩) from rfl)
     refine wp_region_held (S:=fun w'=>w'.heap[w.heap.size]? =some (.cells ([.int .i64 t,.int .i64 r,.int .i64 n,.slice dA u.length dc,.int .i64 ut,.int .i64 ur,.slice oA ops.length oc]:List Value).toArray 45 (0,0))) (by kernel_rfl) ?_
     try(change wpAnyH _ _ _ _ _ _ _ _ (World.drew _))
     refine tk 0 (.pointer (some ⟨P,0,none⟩)) ((show w3.drew.heap[w.heap.size]? =_ from HC3.out)) ?_
     go_simp
     refine tk 1 (.pointer (some ⟨P,0,none⟩)) ((show w3.drew.heap[w.heap.size]? =_ from HC3.out)) ?_
     go_simp
     refine tk 2 (.pointer (some ⟨P,0,none⟩)) ((show w3.drew.heap[w.heap.size]? =_ from HC3.out)) ?_
     go_simp
     refine tk 3 (.pointer (some ⟨P,1,none⟩)) ((show w3.drew.heap[w.heap.size]? =_ from HC3.out)) ?_
     go_simp
     refine wpAnyH_take (i:=5) (v:= .agg ([.int .i64 t,.int .i64 r,.int .i64 n,.slice dA u.length dc,.int .i64 ut,.int .i64 ur,.slice oA ops.length oc]:List Value).toArray) rfl (by kernel_rfl) (by kernel_rfl) (by kernel_rfl) (fun _ _ _ h=>h) (yieldsIf_load_mid (by rfl) _ _ rfl w.heap.size 0 rfl [.int .i64 t,.int .i64 r,.int .i64 n,.slice dA u.length dc,.int .i64 ut,.int .i64 ur,.slice oA ops.length oc] _ (fun W' hW'=>range_of_block hW') Tryz.underlying45 rfl HINF.out) ((show w3.drew.heap[w.heap.size]? =_ from HC3.out)) ?_
     go_simp
     have HBA3:=hid (show Below w3.heap.size w3 (w3.alloc (.cells ([.int .i64 t,.int .i64 r,.int .i64 n,.slice dA u.length dc,.int .i64 ut,.int .i64 ur,.slice oA ops.length oc]:List Value).toArray 45)).drew from⟨rfl,rfl,rfl,by simp,fun k hk=>Below.heap_alloc _ _ _ hk⟩)
     have HCA:=hid (show(w3.alloc (.cells ([.int .i64 t,.int .i64 r,.int .i64 n,.slice dA u.length dc,.int .i64 ut,.int .i64 ur,.slice oA ops.length oc]:List Value).toArray 45)).drew.heap[w.heap.size]? =_ from(Below.heap_alloc w3 (.cells ([.int .i64 t,.int .i64 r,.int .i64 n,.slice dA u.length dc,.int .i64 ut,.int .i64 ur,.slice oA ops.length oc]:List Value).toArray 45) _ hw3).trans HC3.out)
     have HDN:=hid (HX3.out.wait.alloc (.cells ([.int .i64 t,.int .i64 r,.int .i64 n,.slice dA u.length dc,.int .i64 ut,.int .i64 ur,.slice oA ops.length oc]:List Value).toArray 45))
     have HNC:=hid (fun (j:Nat) (y:Value) (h:([.int .i64 t,.int .i64 r,.int .i64 n,.slice dA u.length dc,.int .i64 ut,.int .i64 ur,.slice oA ops.length oc]:List Value)[j]? =some y)=>cellsN w3 [.int .i64 t,.int .i64 r,.int .i64 n,.slice dA u.length dc,.int .i64 ut,.int .i64 ur,.slice oA ops.length oc] 45 j y h)
     have hsA:(w3.alloc (.cells ([.int .i64 t,.int .i64 r,.int .i64 n,.slice dA u.length dc,.int .i64 ut,.int .i64 ur,.slice oA ops.length oc]:List Value).toArray 45)).drew.heap.size=w3.heap.size+1:=by show(w3.alloc _).heap.size=_;simp
     have pA3:(w3.alloc (.cells ([.int .i64 t,.int .i64 r,.int .i64 n,.slice dA u.length dc,.int .i64 ut,.int .i64 ur,.slice oA ops.length oc]:List Value).toArray 45)).drew.cell? ⟨P,1,none⟩=some (.slice wA X.M.length wc):=by show(w3.alloc _).cell? _=_;rw[crw ((Below.heap_alloc w3 (.cells ([.int .i64 t,.int .i64 r,.int .i64 n,.slice dA u.length dc,.int .i64 ut,.int .i64 ur,.slice oA ops.length oc]:List Value).toArray 45) P hP3).trans HX3.out.obj),HWV.out];rfl
     have hgl7:([.int .i64 t,.int .i64 r,.int .i64 n,.slice dA u.length dc,.int .i64 ut,.int .i64 ur,.slice oA ops.length oc]:List Value).length=1*7:=HGA7.out
     rw[HWV.out] at HDN
     refine wpAnyH_ready (rs:=[4,6]) (by kernel_rfl) (by simp) ?_
     refine AllReadyH.cons rfl (fun K hK=> ?_) (AllReadyH.cons rfl (fun K hK=> ?_) AllReadyH.nil)
     focus
      go_simp
      refine hK.out _ _ ((show w3.drew.heap[w.heap.size]? =_ from HC3.out)) (fun _=> ?_)
      clear hK K
      refine wpAnyH_ready (rs:=[6]) (by kernel_rfl) (by simp) ?_
      refine AllReadyH.cons rfl (fun K hK=> ?_) AllReadyH.nil
      go_simp
      refine hK.out _ _ (HCA.out) (fun _=> ?_)
      clear hK K
     rotate_left
     focus
      go_simp
      refine hK.out _ _ (HCA.out) (fun _=> ?_)
      clear hK K
      refine wpAnyH_ready (rs:=[4]) (by kernel_rfl) (by simp) ?_
      refine AllReadyH.cons rfl (fun K hK=> ?_) AllReadyH.nil
      go_simp
      refine hK.out _ _ (HCA.out) (fun _=> ?_)
      clear hK K
     all_goals
      refine wpAnyH_ready (rs:=[7]) (by kernel_rfl) (by simp) ?_
      refine AllReadyH.cons rfl (fun K hK=> ?_) AllReadyH.nil
      refine step_append_lies _ (by rfl) _ _ 25 (by rfl) B 45 i0 (.agg #[.int .i64 0,.int .i64 0,.int .i64 0,.slice none 0 0,.int .i64 0,.int .i64 0,.slice none 0 0]) 7 88 Tryz.underlying25 hi hz0 hz1 hz2 rfl (by decide) (.slice wA X.M.length wc) X.M.length _ (by rfl) (by exact HDN.out) ⟨w3.heap.size,0,none⟩ 1 1 [.int .i64 t,.int .i64 r,.int .i64 n,.slice dA u.length dc,.int .i64 ut,.int .i64 ur,.slice oA ops.length oc] (by rfl) hgl7 (by exact HNC.out) HG1.out (by decide) (by unfold maxLen;omega) (by omega) (by rw[hsA];omega) (w3.heap.size+1) hsA ?_
      intro gq cap w5 hown1 hgrow hat hlt3
      rw[←HWV.out] at hgrow hat
      have hgne:some w.heap.size≠X.wv.ownBlock:=fun e=>by have:=HOL.out _ (.inr (.inr (.inr e.symm)));omega
      have HC5:=hid ((hgrow.block w.heap.size (by rw[hsA];omega) hgne).trans HCA.out)
      have hPd:some P≠X.wv.ownBlock:=fun e=>HX3.out.wP e.symm
      have hob:=(hgrow.block P (by rw[hsA];omega) hPd).trans ((HBA3.out.block P hP3).trans HX3.out.obj)
      have d5:w5.cell? ⟨P,1,none⟩=some (.slice wA X.M.length wc):=by rw[crw hob,HWV.out];rfl
      have f5:w5.frozen? ⟨P,1,none⟩=false:=frozen_of_row _ _ _ _ _ hob
      have hown2:w5.ownsRow B 45 7 (.slice (some ⟨gq,0,none⟩) (X.M.length+1) cap) (X.M++[((⟨⟨t,r⟩,n,u,⟨ut,ur⟩,ops⟩:Grp),(⟨dA,dc,oA,oc⟩:GrX))]).length ((X.M++[((⟨⟨t,r⟩,n,u,⟨ut,ur⟩,ops⟩:Grp),(⟨dA,dc,oA,oc⟩:GrX))]).flatMap grC_):=by rw[List.length_append,List.flatMap_append,List.flatMap_singleton];rw[HGL.out] at hown1;exact hown1
      have HPUT:=hid (HX3.out.wset (wv':= .slice (some ⟨gq,0,none⟩) (X.M.length+1) cap) (M':=X.M++[((⟨⟨t,r⟩,n,u,⟨ut,ur⟩,ops⟩:Grp),(⟨dA,dc,oA,oc⟩:GrX))]) HBA3.out hgrow hown2 (hat.elim (fun e=> .inl (by rw[e];rfl)) (fun e=> .inr (by rw[e,hsA];rfl))) (fun p hp=>by rcases List.mem_append.1 hp with hp|hp;exact HX3.out.good p (List.mem_append.2 (.inr hp));rw[List.mem_singleton] at hp;rw[hp];exact HG3.out))
      clear hown1 hown2 hgrow hat hgne hPd hlt3 hob
      refine hK.out _ _ (HC5.out) (fun _=> ?_)
      clear hK K
      refine tk 8 (.pointer (some ⟨P,0,none⟩)) (HC5.out) ?_
      go_simp
      refine tk 9 (.pointer (some ⟨P,1,none⟩)) (HC5.out) ?_
      go_simp
      refine wpAnyH_ready (rs:=[10]) (by kernel_rfl) (by simp) ?_
      refine AllReadyH.cons rfl (fun K hK=> ?_) AllReadyH.nil
      go_simp
      have HC6:=hid ((Below.heap_setCell w5 ⟨P,1,none⟩ (.slice (some ⟨gq,0,none⟩) (X.M.length+1) cap) w.heap.size (by show w.heap.size≠P;omega)).trans HC5.out)
      refine hK.out _ _ (HC6.out) (fun _=> ?_)
      clear hK K
      refine wpAnyH_done (by kernel_rfl) ?_ _
      go_simp
      obtain⟨hX6,hT6⟩:=HPUT.out
      go_wp2
      go_ret2
      refine⟨rfl,_,S,?_,(BTo.of_below HB3.out).trans hT6⟩
      have:=hX6
      rw[List.map_append,HX3.out.wl] at this
      exact this
def boxN (w:World):BoxX:=⟨.slice none 0 0,.slice none 0 0,none,0,w.heap.size,[],[]⟩
theorem BoxIn.made {w w':World} {S:Nat→Prop} {B:Nat} (hB:B≤w.heap.size) (hS:∀k,S k→k<w.heap.size)
  (hw:w'=(w.alloc (.map #[] 0)).alloc (.cells #[.slice none 0 0,.slice none 0 0,.map (some w.heap.size),.slice none 0 0] 89)):
  BoxIn B (w.heap.size+1) S [] [] [] [] (boxN w) w':=by
 subst hw
 have hs1:(w.alloc (.map #[] 0)).heap.size=w.heap.size+1:=by simp
 refine⟨?_,World.ownsRow_nil _ _ _ _,World.ownsRow_nil _ _ _ _,rfl,rfl,?_,RowG.zero,Nat.le_refl _,Nat.zero_le _,Nat.zero_le _,(fun p hp=>by cases hp),by omega,hB,(by show w.heap.size+1≠w.heap.size;omega),(fun e=>by cases e),(fun e=>by cases e),(fun e=>by cases e),(fun e=>by cases e),(fun g e=>by cases e),fun k hk=>⟨?_,?_⟩⟩
 ·have:=heap_alloc_new (w.alloc (.map #[] 0)) (.cells #[.slice none 0 0,.slice none 0 0,.map (some w.heap.size),.slice none 0 0] 89)
  rw[hs1] at this
  exact this
 ·exact(World.ownsMap_made w Tryz.prog 42 unitElem).kept (World.grownBy_alloc _ _ none) (by simp)
 ·have:=hS k hk;simp;omega
 ·have:=hS k hk
  rintro(h|h|h|h)
  ·omega
  ·have h:k=w.heap.size:=h;omega
  ·cases h
  ·cases h
theorem bxnew_any (w:World):Calls Tryz.prog 18 #[] w fun e w'=>e= .returned (.pointer (some ⟨w.heap.size+1,0,none⟩))∧w'=(w.alloc (.map #[] 0)).alloc (.cells #[.slice none 0 0,.slice none 0 0,.map (some w.heap.size),.slice none 0 0] 89):=by
 have hs1:(w.alloc (.map #[] 0)).heap.size=w.heap.size+1:=by simp
 have HS:=hid hs1
 clear hs1
 have hmm:=@run_makeMap Tryz.prog
 go_enter Tryz.func18,Tryz.ntmps18
 go_wp2
 go_ret
 exact⟨rfl,rfl⟩
theorem infoint_:(Tryz.prog.info? 3).map (fun i=>(i.zero,i.size,i.bytes))=some (some (.int .i64 0),1,8):=by kernel_rfl
theorem clonegr_any (A:Option Addr) (n c:Nat) (xs:List Value) (w:World) (hx:xs.length=n*7) (h0:A=none→n=0) (hc:∀ad,A=some ad→∀j u,xs[j]? =some u→w.cell? (ad.add j)=some u) (h1:∀u∈xs,u.oneCell'=true) (hl:n≤1000000):
  Calls Tryz.prog 53 #[.slice A n c] w fun e w'=>∃A' c',e= .returned (.slice A' n c')∧w'.ownsRow w.heap.size 45 7 (.slice A' n c') n xs∧Below w.heap.size w w':=by
 obtain⟨i0,hi,hz0,hz1,hz2⟩:=info_parts infogrC_
 have q0:∀(w:World) (a:Option Addr) (n c n' c':Nat),(binOp .eql 25 (.slice a n c) (.slice none n' c')).run Tryz.prog w= .ok (.bool a.isNone) w:=fun w a n c n' c'=>Lib.run_eql_slice_nil w _ _ a n c n' c' Tryz.underlying25
 cases A with
 |none=>
  obtain rfl:=h0 rfl
  obtain rfl:xs=[]:=List.length_eq_zero_iff.1 (by omega)
  clear h0 hc h1 hx
  go_enter Tryz.func53,Tryz.ntmps53
  go_wp2
  go_ret
  exact⟨_,_,rfl,World.ownsRow_nil _ _ _ _,Below.refl _ _⟩
 |some ad=>
  have HC:=hid (hc ad rfl)
  have H1:=hid h1
  have HX:=hid hx
  clear h0 hc h1 hx
  have u0:∀w,Sem.run Tryz.prog (underlying 25) w= .ok (TypeDesc.slice 45) w:=run_underlying Tryz.underlying25
  go_enter Tryz.func53,Tryz.ntmps53
  go_wp2_with (at_builtin;refine wpList_append_own _ rfl _ _ 25 rfl w.heap.size 45 i0 (.agg #[.int .i64 0,.int .i64 0,.int .i64 0,.slice none 0 0,.int .i64 0,.int .i64 0,.slice none 0 0]) 7 88 Tryz.underlying25 hi hz0 hz1 hz2 rfl (by decide) _ _ _ rfl (World.ownsRow_made w #[] 0 (Nat.le_refl _) (Nat.zero_le _) rfl) ad n c xs rfl HX.out (fun j u hj=>Lib.cell?_alloc_some _ (HC.out j u hj)) H1.out (by unfold maxLen;omega) (by omega) (by simp) ?_;intro v' w1 hown hgrow hnil)
  go_ret
  obtain⟨A',c',rfl⟩:=row_slice hown
  rw[Nat.zero_add] at hown ⊢
  exact⟨_,_,rfl,by simpa using hown,((Below.refl _ w).alloc (Nat.le_refl _) _).grown hgrow (by simp) (by intro k hk;have hk:some w.heap.size=some k:=hk;injection hk with hk;omega)⟩
theorem cloneint_any (A:Option Addr) (n c:Nat) (xs:List Value) (w:World) (hx:xs.length=n*1) (h0:A=none→n=0) (hc:∀ad,A=some ad→∀j u,xs[j]? =some u→w.cell? (ad.add j)=some u) (h1:∀u∈xs,u.oneCell'=true) (hl:n≤1000000):
  Calls Tryz.prog 64 #[.slice A n c] w fun e w'=>∃A' c',e= .returned (.slice A' n c')∧w'.ownsRow w.heap.size 3 1 (.slice A' n c') n xs∧Below w.heap.size w w':=by
 obtain⟨i0,hi,hz0,hz1,hz2⟩:=info_parts infoint_
 have q0:∀(w:World) (a:Option Addr) (n c n' c':Nat),(binOp .eql 27 (.slice a n c) (.slice none n' c')).run Tryz.prog w= .ok (.bool a.isNone) w:=fun w a n c n' c'=>Lib.run_eql_slice_nil w _ _ a n c n' c' Tryz.underlying27
 cases A with
 |none=>
  obtain rfl:=h0 rfl
  obtain rfl:xs=[]:=List.length_eq_zero_iff.1 (by omega)
  clear h0 hc h1 hx
  go_enter Tryz.func64,Tryz.ntmps64
  go_wp2
  go_ret
  exact⟨_,_,rfl,World.ownsRow_nil _ _ _ _,Below.refl _ _⟩
 |some ad=>
  have HC:=hid (hc ad rfl)
  have H1:=hid h1
  have HX:=hid hx
  clear h0 hc h1 hx
  have u0:∀w,Sem.run Tryz.prog (underlying 27) w= .ok (TypeDesc.slice 3) w:=run_underlying Tryz.underlying27
  go_enter Tryz.func64,Tryz.ntmps64
  go_wp2_with (at_builtin;refine wpList_append_own _ rfl _ _ 27 rfl w.heap.size 3 i0 (.int .i64 0) 1 8 Tryz.underlying27 hi hz0 hz1 hz2 rfl (by decide) _ _ _ rfl (World.ownsRow_made w #[] 0 (Nat.le_refl _) (Nat.zero_le _) rfl) ad n c xs rfl HX.out (fun j u hj=>Lib.cell?_alloc_some _ (HC.out j u hj)) H1.out (by unfold maxLen;omega) (by omega) (by simp) ?_;intro v' w1 hown hgrow hnil)
  go_ret
  obtain⟨A',c',rfl⟩:=row_slice hown
  rw[Nat.zero_add] at hown ⊢
  exact⟨_,_,rfl,by simpa using hown,((Below.refl _ w).alloc (Nat.le_refl _) _).grown hgrow (by simp) (by intro k hk;have hk:some w.heap.size=some k:=hk;injection hk with hk;omega)⟩
theorem row_at {w:World} {B E s n:Nat} {A:Option Addr} {c:Nat} {xs:List Value} (h:w.ownsRow B E s (.slice A n c) n xs):(A=none→n=0)∧∀ad,A=some ad→∀j u,xs[j]? =some u→w.cell? (ad.add j)=some u:=by
 rcases h.2 with⟨e,rfl⟩|⟨g,cap,cur,e,-,hg,-,-,-,htk⟩
 ·cases e
  exact⟨fun _=>rfl,(fun ad e=>by cases e)⟩
 ·cases e
  refine⟨(fun e=>by cases e),fun ad e j u hj=> ?_⟩
  cases e
  rw[Addr.add_mid,Nat.zero_add,cell_of_row _ _ _ _ _ _ hg,←Array.getElem?_toList]
  rw[←htk,List.getElem?_take] at hj
  split at hj
  ·exact hj
  ·cases hj
theorem row_cap {w:World} {B E s n c:Nat} {A:Option Addr} {xs:List Value} (h:w.ownsRow B E s (.slice A n c) n xs):n≤c:=by
 rcases h.2 with⟨e,rfl⟩|⟨g,cap,cur,e,-,-,h3,-⟩
 ·exact Nat.zero_le _
 ·cases e;exact h3
theorem bxdone_any {B P:Nat} {S:Nat→Prop} {dn mp wt:List Grp} {v:List Int} {X:BoxX} {w:World} (h:BoxIn B P S dn mp wt v X w) (hl:dn.length≤1000000):
  Calls Tryz.prog 21 #[.pointer (some ⟨P,0,none⟩)] w fun e w'=>∃A c,e= .returned (.slice A dn.length c)∧w'.ownsRow w.heap.size 45 7 (.slice A X.L.length c) X.L.length (X.L.flatMap grC_)∧Below w.heap.size w w':=by
 obtain⟨A0,c0,hv⟩:=row_slice h.done
 have hO:=h.done
 rw[hv] at hO
 have hx:=row_at hO
 have hn:X.L.length=dn.length:=h.dlen
 have HCL:=hid (clonegr_any A0 X.L.length c0 (X.L.flatMap grC_) w (lengrC_ _) hx.1 hx.2 (fun u hu=>by obtain⟨x,-,hx⟩:=List.mem_flatMap.1 hu;exact ocgrC_ x u hx) (by omega))
 have d0:w.cell? ⟨P,0,none⟩=some (.slice A0 X.L.length c0):=by rw[h.cell,←hv];rfl
 rw[←hn]
 clear h hO hx hv hl hn
 go_enter Tryz.func21,Tryz.ntmps21
 go_wp2_with (go_at_call 53;refine HCL.out.mono ?_;rintro e w1 ⟨A1,c1,rfl,hown,hB⟩)
 go_ret
 exact⟨_,_,rfl,hown,hB⟩
theorem bxwait_any {B P:Nat} {S:Nat→Prop} {dn mp wt:List Grp} {v:List Int} {X:BoxX} {w:World} (h:BoxIn B P S dn mp wt v X w) (hl:wt.length≤1000000):
  Calls Tryz.prog 22 #[.pointer (some ⟨P,0,none⟩)] w fun e w'=>∃A c,e= .returned (.slice A wt.length c)∧w'.ownsRow w.heap.size 45 7 (.slice A X.M.length c) X.M.length (X.M.flatMap grC_)∧Below w.heap.size w w':=by
 obtain⟨A0,c0,hv⟩:=row_slice h.wait
 have hO:=h.wait
 rw[hv] at hO
 have hx:=row_at hO
 have hn:X.M.length=wt.length:=h.wlen
 have HCL:=hid (clonegr_any A0 X.M.length c0 (X.M.flatMap grC_) w (lengrC_ _) hx.1 hx.2 (fun u hu=>by obtain⟨x,-,hx⟩:=List.mem_flatMap.1 hu;exact ocgrC_ x u hx) (by omega))
 have d0:w.cell? ⟨P,1,none⟩=some (.slice A0 X.M.length c0):=by rw[h.cell,←hv];rfl
 rw[←hn]
 clear h hO hx hv hl hn
 go_enter Tryz.func22,Tryz.ntmps22
 go_wp2_with (go_at_call 53;refine HCL.out.mono ?_;rintro e w1 ⟨A1,c1,rfl,hown,hB⟩)
 go_ret
 exact⟨_,_,rfl,hown,hB⟩
theorem bxvec_any {B P:Nat} {S:Nat→Prop} {dn mp wt:List Grp} {v:List Int} {X:BoxX} {w:World} (h:BoxIn B P S dn mp wt v X w):
  Calls Tryz.prog 28 #[.pointer (some ⟨P,0,none⟩)] w fun e w'=>∃A c,e= .returned (.slice A v.length c)∧VecS w' (fun k=>w.heap.size≤k) A v∧v.length≤c∧Below w.heap.size w w':=by
 have hvec:=h.vec
 have HCL:=hid (cloneint_any X.vA v.length X.vc (v.flatMap intC_) w (lenintC_ v) (fun e=>by
   rcases Nat.eq_zero_or_pos v.length with h0|h0
   ·exact h0
   ·obtain⟨b,o,e2,_⟩:=hvec 0 h0;rw[e] at e2;cases e2) (fun ad e j u hj=>by
   rw[show v.flatMap intC_=v.map (Value.int .i64) from by rw[List.map_eq_flatMap];rfl,List.getElem?_map] at hj
   obtain⟨y,hy,rfl⟩:=Option.map_eq_some_iff.1 hj
   obtain⟨b,o,e2,-,-,hc⟩:=hvec j (List.getElem?_eq_some_iff.1 hy).1
   rw[e] at e2;cases e2
   have:=hc 0 (by omega)
   rw[Addr.add_mid]
   simpa[List.getD_eq_getElem?_getD,hy] using this) (fun u hu=>by obtain⟨x,-,hx⟩:=List.mem_flatMap.1 hu;obtain rfl:=List.mem_singleton.1 hx;rfl) (by have:=h.vlen;omega))
 have d0:w.cell? ⟨P,3,none⟩=some (.slice X.vA v.length X.vc):=by rw[h.cell];rfl
 clear h hvec
 go_enter Tryz.func28,Tryz.ntmps28
 go_wp2_with (go_at_call 64;refine HCL.out.mono ?_;rintro e w1 ⟨A1,c1,rfl,hown,hB⟩)
 go_ret
 exact⟨_,_,rfl,vec_own hown,row_cap hown,hB⟩
theorem getD_fst' (L:List (Grp×GrX)) (k:Nat):(L.getD k gp0).1=(L.map Prod.fst).getD k gz:=by
 rw[List.getD_eq_getElem?_getD,List.getD_eq_getElem?_getD,List.getElem?_map]
 cases L[k]? <;>rfl
theorem aheadV_take:∀(l:List Grp) (v u:List Int),aheadV v l=some u→∀j,j<l.length→∃x,aheadV v (l.take j)=some x∧chkB (l.getD j gz)=true∧covB x (l.getD j gz).deps=true∧atV x (l.getD j gz).s.r=(l.getD j gz).n-1∧aheadV v (l.take (j+1))=some (withV x (l.getD j gz).s.r (l.getD j gz).n)
 | [],v,u,h,j,hj=>absurd hj (Nat.not_lt_zero _)
 | g::l,v,u,h,0,hj=>by
  rw[aheadV] at h
  split at h
  ·rename_i c
   simp only[Bool.and_eq_true,decide_eq_true_eq] at c
   refine⟨v,rfl,c.1.1,c.1.2,c.2,?_⟩
   show aheadV v (g::l.take 0)=_
   rw[aheadV,if_pos (by simp[c.1.1,c.1.2,c.2])]
   rw[List.take_zero];rfl
  ·cases h
 | g::l,v,u,h,j+1,hj=>by
  rw[aheadV] at h
  split at h
  ·rename_i c
   obtain⟨x,h1,h2,h3,h4,h5⟩:=aheadV_take l _ u h j (by simpa using hj)
   refine⟨x,?_,h2,h3,h4,?_⟩
   ·show aheadV v (g::l.take j)=_
    rw[aheadV,if_pos c];exact h1
   ·show aheadV v (g::l.take (j+1))=_
    rw[aheadV,if_pos c];exact h5
  ·cases h
theorem lawahead_any (L:List (Grp×GrX)) (A:Option Addr) (c:Nat) (S:Nat→Prop) (w:World) (hl:L.length≤1000000) (hR:RowGr w A L) (hG:∀p∈L,GrG w S p) (hT:∀p∈L,∀o∈p.1.ops,o.text.size≤1000000) (u:List Int) (hu:aheadV [] (L.map Prod.fst)=some u):
  Calls Tryz.prog 23 #[.slice A L.length c] w fun e w'=>e= .returned (.bool true)∧Below w.heap.size w w':=by
 have HU:=hid hu
 have HR:=hid hR
 have HG:=hid hG
 have HT:=hid hT
 clear hu hR hG hT
 go_enter Tryz.func23,Tryz.ntmps23
 go_upto_region 3 with(fail)
 go_loopw [3,4] (fun s i wr=>∃(j:Nat) (v:List Int) (vA:Option Addr) (vc:Nat),j≤L.length∧s= .slice vA v.length vc∧v.length≤16∧VecS wr (fun _=>True) vA v∧Hid (aheadV [] ((L.map Prod.fst).take j)=some v)∧i= .int .i64 j∧Below w.heap.size w wr) (fun s i _=>L.length-(RowKit.intOf i).toNat)
 case atStart=>exact⟨0,[],none,0,by omega,rfl,by decide,RowG.zero,hid rfl,rfl,Below.refl _ _⟩
 case round=>
  obtain⟨j,v,vA,vc,hj,rfl,hv16,hV,HV,rfl,hBr⟩:=hrel
  have hsz:=hBr.size
  by_cases hlt:j<L.length
  ·have i0:(0:Int)≤(j:Int):=by omega
   have i1:(j:Int)<(L.length:Int):=by omega
   have hRr:=HR.out.below hBr
   obtain⟨b,o,rfl,hb,hrg⟩:=hRr.range hlt
   have hm:L.getD j gp0∈L:=by rw[List.getD_eq_getElem?_getD,List.getElem?_eq_getElem hlt];exact List.getElem_mem hlt
   have hgood:GrG wr S (L.getD j gp0):=(HG.out _ hm).agr (Agr.below hBr)
   have htx:=HT.out _ hm
   have hgd:=getD_fst' L j
   obtain⟨x5,k1,k2,k3,k4,k5⟩:=aheadV_take _ _ _ HU.out j (by rw[List.length_map];exact hlt)
   obtain rfl:x5=v:=by rw[HV.out] at k1;exact(Option.some.inj k1).symm
   rw[←hgd] at k2 k3 k4 k5
   generalize L.getD j gp0=p at *
   obtain⟨⟨⟨t,r⟩,n,dv,⟨ut,ur⟩,ops⟩,⟨dA,dc,oA,oc⟩⟩:=p
   clear hgd hm k1 hRr HR
   have k2:chkB ⟨⟨t,r⟩,n,dv,⟨ut,ur⟩,ops⟩=true:=k2
   obtain⟨c1,c2,c3,-⟩:=chk_right k2
   have hr:=right_r c1
   have hr1:1≤r:=hr.1
   have hr2:r≤16:=hr.2
   have hn1:1≤n:=c2
   have hn2:n≤1099511627776:=c3
   have K5:=hid (show aheadV [] ((L.map Prod.fst).take (j+1))=some (withV x5 r n) from k5)
   obtain⟨GA,hGA⟩:∃l:List Value,l=[.int .i64 t,.int .i64 r,.int .i64 n,.slice dA dv.length dc,.int .i64 ut,.int .i64 ur,.slice oA ops.length oc]:=⟨_,rfl⟩
   have HGA:=hid hGA
   have HRG:=hid (show wr.rangeAt b (o+j*7) GA by rw[hGA];exact hrg)
   have HN:=hid (show(Tryz.prog.info? 45).map (·.size)=some GA.length by rw[hGA];kernel_rfl)
   have HN2:=hid (show(Tryz.prog.info? 45).map (·.size)=some GA.toArray.size by rw[List.size_toArray];exact HN.out)
   have HSZ:=hid (show GA.toArray.size=7 by rw[hGA];rfl)
   have HOC:=hid (show GA.toArray.toList.all (·.oneCell')=true by rw[hGA];rfl)
   have hdl:dv.length≤1000:=chk_dl k2
   clear hGA hrg k5
   have HCK:=hid (fun W (hB:Below wr.heap.size wr W)=>vchk_any ⟨⟨t,r⟩,n,dv,⟨ut,ur⟩,ops⟩ dA dc oA oc S W (GrIn.agr hgood (Agr.below hB)) (fun _=>htx) k2)
   have HCV:=hid (fun W (hB:Below wr.heap.size wr W)=>refcovers_any vA dA vc dc x5 dv W (by omega) (by omega) (VecS.vec (RowG.agr hV (Agr.below hB))) (VecS.vec (S:=S) (RowG.agr hgood.deps (Agr.below hB))))
   have HAT:=hid (fun W (hB:Below wr.heap.size wr W)=>refat_any vA vc x5 r W (by omega) (VecS.vec (RowG.agr hV (Agr.below hB))))
   have HWI:=hid (fun W (hB:Below wr.heap.size wr W)=>refwith_any vA vc x5 r n W (by omega) hr1 hr2 (VecS.vec (RowG.agr hV (Agr.below hB))))
   have k3:covB x5 dv=true:=k3
   have k4:atV x5 r=n-1:=k4
   rw[k2] at HCK
   rw[k3] at HCV
   rw[k4] at HAT
   clear k2 k3 k4 hgood htx c1 c2 c3 hr
   go_upto_region 6 with(first
    |(refine wpList_load_mid rfl _ _ rfl b (o+j*7) rfl GA _ HRG.out Tryz.underlying45 rfl HN.out ?_)
    |(refine store_last rfl _ _ _ rfl _ _ _ GA.toArray rfl ?_ rfl ?_ ?_ HOC.out ?_;(focus(simp;done));exact HN2.out;exact HSZ.out.symm))
   have hbl:=heap_alloc_new wr (.cells GA.toArray 45)
   rw[show GA.toArray=#[.int .i64 t,.int .i64 r,.int .i64 n,.slice dA dv.length dc,.int .i64 ut,.int .i64 ur,.slice oA ops.length oc] by rw[HGA.out]] at hbl ⊢
   have hBV:Below wr.heap.size wr (wr.alloc (.cells #[.int .i64 t,.int .i64 r,.int .i64 n,.slice dA dv.length dc,.int .i64 ut,.int .i64 ur,.slice oA ops.length oc] 45)):=(Below.refl _ _).alloc (Nat.le_refl _) _
   generalize wr.alloc (.cells #[.int .i64 t,.int .i64 r,.int .i64 n,.slice dA dv.length dc,.int .i64 ut,.int .i64 ur,.slice oA ops.length oc] 45)=W at *
   have y0:=rg0 hbl
   have y1:=rg1 hbl
   have y2:=rg2 hbl
   have y3:=rg3 hbl
   have y4:=rg4 hbl
   have y5:=rg5 hbl
   have y6:=rg6 hbl
   have HBL:=hid hbl
   have hbV:wr.heap.size<W.heap.size:=lt_of_block hbl
   have HBV:=hid hBV
   clear hbl hBV
   have q1:IntKind.i64.wrap (n-1)=n-1:=by rw[IntKind.wrap_i64];omega
   have cA:∀d os,Calls Tryz.prog 54 #[.agg #[.int .i64 t,.int .i64 r,.int .i64 n,.slice dA dv.length dc,.int .i64 ut,.int .i64 ur,.slice oA ops.length oc]] (grow (redrawn W d) os) fun e w''=>e= .returned (.int .i64 0)∧∃p:Regrown,w''=grow (redrawn W p.d) p.os:=fun d os=>Calls.regrown_of (HCK.out (grow (redrawn W d) os) (bx_grow HBV.out HBV.out.size d os))
   have cB:∀d os,Calls Tryz.prog 38 #[.slice vA x5.length vc,.slice dA dv.length dc] (grow (redrawn W d) os) fun e w''=>e= .returned (.bool true)∧∃p:Regrown,w''=grow (redrawn W p.d) p.os:=fun d os=>Calls.regrown_of ((HCV.out (grow (redrawn W d) os) (bx_grow HBV.out HBV.out.size d os)).mono (by rintro e w' ⟨rfl,rfl⟩;exact⟨rfl,Below.refl _ _⟩))
   have cC:∀d os,Calls Tryz.prog 55 #[.slice vA x5.length vc,.int .i64 r] (grow (redrawn W d) os) fun e w''=>e= .returned (.int .i64 (n-1))∧∃p:Regrown,w''=grow (redrawn W p.d) p.os:=fun d os=>Calls.regrown_of ((HAT.out (grow (redrawn W d) os) (bx_grow HBV.out HBV.out.size d os)).mono (by rintro e w' ⟨rfl,rfl⟩;exact⟨rfl,Below.refl _ _⟩))
   refine rqb ?_
   repeat(any_goals(first|go_big_quiet_step (with_reducible first|exact cA _ _|exact cB _ _|exact cC _ _)|quiet_step (with_reducible first|exact cA _ _|exact cB _ _|exact cC _ _)))
   refine qz fun wq hBq=> ?_
   have HCq:=hid ((hBq.block _ hbV).trans HBL.out)
   have z1:=cw1 HCq.out
   have z2:=cw2 HCq.out
   have HWq:=hid (HBV.out.trans (hBq.mono HBV.out.size))
   clear y0 y1 y2 y3 y4 y5 y6 cA cB cC hBq
   go_wp2_with (go_at_call 56;refine(HWI.out wq HWq.out).mono ?_;rintro e w9 ⟨hB9,A9,c9,rfl,hv9,hc9,hm9⟩)
   have hl9:=withV_len x5 r n hv16 hr2
   go_roundw
   case rel=>exact⟨j+1,withV x5 r n,A9,c9,by omega,rfl,hl9,RowG.sub hv9 (fun _ _ _=>trivial),K5,by go_num,hBr.trans ((HWq.out.trans (hB9.mono HWq.out.size)).mono hsz)⟩
   case measure=>(simp[RowKit.intOf];omega)
  ·obtain rfl:j=L.length:=by omega
   have i1:¬(L.length:Int)<(L.length:Int):=by omega
   go_wp2
   go_ret
   exact⟨rfl,hBr⟩
end
section
set_option linter.unusedVariables false
def secondG:Grp:=⟨⟨2,1⟩,2,[1],⟨1,1⟩,[]⟩
def awb1:Bx:=⟨[],[secondG],[]⟩
def awb2:Bx:=⟨[firstG,secondG],[],[2]⟩
set_option maxRecDepth 100000
theorem chk_first:chkB firstG=true:=by decide +kernel
theorem chk_second:chkB secondG=true:=by decide +kernel
theorem aw_hear1:hearB Bx.new secondG=(awb1,0,0):=by
 unfold hearB
 rw[chk_second,if_neg (by decide),show knownB Bx.new secondG=false by decide +kernel,if_neg (by decide),show readyB Bx.new.v secondG=false by decide +kernel,if_neg (by decide),if_neg (by decide)]
 rfl
theorem aw_hear2:hearB awb1 firstG=(awb2,2,0):=by
 unfold hearB
 rw[chk_first,if_neg (by decide),show knownB awb1 firstG=false by decide +kernel,if_neg (by decide),show readyB awb1.v firstG=true by decide +kernel,if_pos rfl]
 have h1:drainF awb1.wait.length (awb1.put firstG)=(awb2,1):=by
  rw[show awb1.wait.length=0+1 from rfl,drainF_put (k:=0) (by decide +kernel) (by decide +kernel)]
  rw[show(awb1.put firstG).wait.getD 0 gz=secondG from rfl]
  have e:Bx.put ⟨(awb1.put firstG).done,(awb1.put firstG).wait.eraseIdx 0,(awb1.put firstG).v⟩ secondG=awb2:=by
   show(⟨_,_,_⟩:Bx)=⟨_,_,_⟩
   rw[Bx.mk.injEq]
   exact⟨rfl,rfl,by decide +kernel⟩
  rw[e];rfl
 rw[h1]
theorem aw_hear3:hearB awb2 secondG=(awb2,0,210):=by
 unfold hearB
 rw[chk_second,if_neg (by decide),show knownB awb2 secondG=true by decide +kernel,if_pos rfl]
theorem aw_ok1:BxOk awb1:=by have:=hearB_ok BxOk.new secondG;rw[aw_hear1] at this;exact this
theorem aw_ok2:BxOk awb2:=by have:=hearB_ok aw_ok1 firstG;rw[aw_hear2] at this;exact this
end
section
open Go.RowKit Go.Lib Go.Sort
set_option linter.unusedVariables false
attribute [local go_sem ↓] Go.wp_at_zero Go.wp_at_succ
theorem own_new_iff {w:World} {k:Nat} (h:Own (w.heap.size+1) (boxN w) k):k=w.heap.size+1∨k=w.heap.size:=by
 rcases h with h|h|h|h
 ·exact .inl h
 ·exact .inr h
 ·cases h
 ·cases h
theorem second_in (w:World) (S:Nat→Prop) (b:Nat) (hS:S b) (h:w.heap[b]? =some (.cells #[.int .i64 1] 3 (0,0))):GrIn w S secondG (some ⟨b,0,none⟩) 1 none 0:=by
 refine⟨fun k hk=> ?_,⟨fun _=>⟨none,0,none,0⟩,RowG.zero,fun k hk=>(by cases hk)⟩,Nat.le_refl _,Nat.le_refl _,by decide,Nat.zero_le _,⟨by decide,by decide⟩,fun x hx=> ?_⟩
 ·obtain rfl:k=0:=by have:k<1:=hk;omega
  refine⟨b,0,rfl,hS,lt_of_block h,fun j hj=> ?_⟩
  obtain rfl:j=0:=by omega
  rw[crw h];rfl
 ·obtain rfl:x=1:=by simpa[secondG] using hx
  exact⟨by decide,by decide⟩
theorem awake21_any (w:World) (hTb:Tabs w):Calls Tryz.prog 16 #[] w fun e w'=>e= .returned (.bool true)∧Below w.heap.size w w':=by
 have HTB:=hid hTb
 clear hTb
 go_enter Tryz.func16,Tryz.ntmps16
 go_upto_region 4 with(first
  |(go_at_call 18;refine(bxnew_any w).mono ?_;rintro e w1 ⟨rfl,hw1⟩;have HW1:=hid hw1;clear hw1))
 have hb1:Below w.heap.size w w1:=by rw[HW1.out];exact((Below.refl _ _).alloc (Nat.le_refl _) _).alloc (by simp) _
 have hs1:w1.heap.size=w.heap.size+2:=by rw[HW1.out];simp
 have HX1:=hid (BoxIn.made (S:=fun _=>False) (B:=w.heap.size) (Nat.le_refl _) (fun k hk=>hk.elim) HW1.out)
 have HB1:=hid hb1
 have HS1:=hid hs1
 clear HW1 hb1 hs1
 go_upto_region 6 with(first
  |(go_at_call 42;refine(firstg_any w1).mono ?_;rintro e w2 ⟨fa,rfl,hI2,hB2⟩))
 have HG2:=hid (show GrG w2 (fun k=>w1.heap.size≤k) (firstG,⟨none,0,some ⟨fa,0,none⟩,1⟩) from hI2)
 have HB2:=hid hB2
 clear hI2 hB2
 generalize hw3:w2.alloc (.cells #[.int .i64 1,.int .i64 1,.int .i64 1,.slice none 0 0,.int .i64 0,.int .i64 0,.slice (some ⟨fa,0,none⟩) 1 1] 45)=w3 at *
 have hs3:w3.heap.size=w2.heap.size+1:=by rw[←hw3];simp
 have hc3:w3.heap[w2.heap.size]? =some (.cells #[.int .i64 1,.int .i64 1,.int .i64 1,.slice none 0 0,.int .i64 0,.int .i64 0,.slice (some ⟨fa,0,none⟩) 1 1] 45 (0,0)):=by rw[←hw3];exact heap_alloc_new _ _
 have hb3:Below w2.heap.size w2 w3:=by rw[←hw3];exact(Below.refl _ _).alloc (Nat.le_refl _) _
 clear hw3
 generalize hw4:w3.alloc (.cells #[.int .i64 1] 3)=w4 at *
 have hs4:w4.heap.size=w2.heap.size+2:=by rw[←hw4];simp[hs3]
 have hc4:w4.heap[w2.heap.size+1]? =some (.cells #[.int .i64 1] 3 (0,0)):=by rw[←hw4];exact heap_alloc_newC _ _ hs3
 have hb4:Below w3.heap.size w3 w4:=by rw[←hw4];exact(Below.refl _ _).alloc (Nat.le_refl _) _
 clear hw4
 generalize hw5:w4.alloc (.cells #[.int .i64 2,.int .i64 1,.int .i64 2,.slice (some ⟨w2.heap.size+1,0,none⟩) 1 1,.int .i64 1,.int .i64 1,.slice none 0 0] 45)=W at *
 have hs5:W.heap.size=w2.heap.size+3:=by rw[←hw5];simp[hs4]
 have hc5:W.heap[w2.heap.size+2]? =some (.cells #[.int .i64 2,.int .i64 1,.int .i64 2,.slice (some ⟨w2.heap.size+1,0,none⟩) 1 1,.int .i64 1,.int .i64 1,.slice none 0 0] 45 (0,0)):=by rw[←hw5];exact heap_alloc_newC _ _ hs4
 have hb5:Below w4.heap.size w4 W:=by rw[←hw5];exact(Below.refl _ _).alloc (Nat.le_refl _) _
 clear hw5
 have hN:=HB2.out.size
 have hs1:=HS1.out
 have hb25:Below w2.heap.size w2 W:=(hb3.trans (hb4.mono (by omega))).trans (hb5.mono (by omega))
 have hb15:Below w1.heap.size w1 W:=HB2.out.trans (hb25.mono hN)
 obtain⟨S,hS⟩:∃S:Nat→Prop,S=fun k=>w1.heap.size≤k∧k<W.heap.size:=⟨_,rfl⟩
 have hX:BoxIn w.heap.size (w.heap.size+1) S Bx.new.done Bx.new.done Bx.new.wait Bx.new.v (boxN w) W:=(HX1.out.below hb15).sup (fun k hk=>hk.elim) (fun k hk=> .inr (by
  rw[hS] at hk
  refine⟨hk.2,fun h=> ?_⟩
  have:=hk.1
  rcases own_new_iff h with h|h<;>omega))
 have hG1:GrG W S (firstG,⟨none,0,some ⟨fa,0,none⟩,1⟩):=(HG2.out.agr (Agr.below hb25)).sub fun b hb h=>by rw[hS];exact⟨h,hb⟩
 have hG2:GrG W S (secondG,⟨some ⟨w2.heap.size+1,0,none⟩,1,none,0⟩):=second_in W S _ (by rw[hS];exact⟨by omega,by omega⟩) ((hb5.block _ (by omega)).trans hc4)
 have HCG:=hid ((hb5.block _ (by omega)).trans ((hb4.block _ (by omega)).trans hc3))
 have HCH:=hid hc5
 have HB5:=hid (HB1.out.trans (hb15.mono (by omega)))
 have HTW:=hid (HTB.out.below HB5.out)
 have HOW:=hid (show ∀k,Own (w.heap.size+1) (boxN w) k→w.heap.size≤k∧k<w2.heap.size from fun k h=>by rcases own_new_iff h with h|h<;>omega)
 have HN2:=hid (show w2.heap.size+2<W.heap.size by omega)
 have HG1:=hid hG1
 have HG2':=hid hG2
 have HX:=hid hX
 clear hS hs3 hs4 hs5 hc3 hc4 hc5 hb3 hb4 hb5 hN hs1 hb25 hb15 hX hG1 hG2 HG2 HB2 HS1 HX1 HB1
 have HE1:Hid (Calls Tryz.prog 20 #[.pointer (some ⟨w.heap.size+1,0,none⟩),.agg #[.int .i64 2,.int .i64 1,.int .i64 2,.slice (some ⟨w2.heap.size+1,0,none⟩) 1 1,.int .i64 1,.int .i64 1,.slice none 0 0]] W fun e w'=>e= .returned (.tuple #[.int .i64 0,.int .i64 0])∧∃X' S',BoxIn w.heap.size (w.heap.size+1) S' awb1.done awb1.done awb1.wait awb1.v X' w'∧BTo (w.heap.size+1) (boxN w) S W X' S' w'):=by
  refine hid ?_
  have:=bxhear_any (b:=Bx.new) HX.out BxOk.new secondG _ HG2'.out (fun o ho=>by cases ho) HTW.out (Nat.zero_le _) (Nat.zero_le _)
  rw[aw_hear1] at this
  exact this
 have HIN:=hid (show(Tryz.prog.info? 45).map (·.size)=some 7 by kernel_rfl)
 go_upto_region 7 with(first
  |(refine load_at rfl _ _ rfl (w2.heap.size+2) _ _ _ rfl HCH.out Tryz.underlying45 rfl HIN.out ?_)
  |(go_at_call 20;refine HE1.out.mono ?_;rintro e w6 ⟨rfl,X6,S6,hX6,hT6⟩))
 have hog:¬Own (w.heap.size+1) (boxN w) w2.heap.size:=fun h=>by have:=HOW.out _ h;omega
 have hoh:¬Own (w.heap.size+1) (boxN w) (w2.heap.size+2):=fun h=>by have:=HOW.out _ h;omega
 have HWT:=hid (show Calls Tryz.prog 22 #[.pointer (some ⟨w.heap.size+1,0,none⟩)] w6 fun e w'=>∃A c,e= .returned (.slice A 1 c)∧Below w6.heap.size w6 w' from(bxwait_any hX6 (by decide)).mono (by rintro e w' ⟨A,c,rfl,-,h⟩;exact⟨A,c,rfl,h⟩))
 have HX6:=hid hX6
 have HT6:=hid hT6
 clear hX6 hT6 HE1
 go_upto_region 8 with(first
  |(go_at_call 22;refine HWT.out.mono ?_;rintro e w7 ⟨A7,c7,rfl,hB7⟩))
 have hX7:=HX6.out.below hB7
 have hT7:=HT6.out.trans (BTo.of_below (P:=w.heap.size+1) (X:=X6) (S:=S6) hB7)
 have HCG7:=hid (hT7.gr.cells HCG.out hog)
 have HB7:=hid (HB5.out.trans (hT7.gr.below HB5.out.size (fun k h=>(HOW.out k h).1)))
 have HE2:Hid (Calls Tryz.prog 20 #[.pointer (some ⟨w.heap.size+1,0,none⟩),.agg #[.int .i64 1,.int .i64 1,.int .i64 1,.slice none 0 0,.int .i64 0,.int .i64 0,.slice (some ⟨fa,0,none⟩) 1 1]] w7 fun e w'=>e= .returned (.tuple #[.int .i64 2,.int .i64 0])∧∃X' S',BoxIn w.heap.size (w.heap.size+1) S' awb2.done awb2.done awb2.wait awb2.v X' w'∧BTo (w.heap.size+1) X6 S6 w7 X' S' w'):=by
  refine hid ?_
  have:=bxhear_any (b:=awb1) hX7 aw_ok1 firstG _ ((HG1.out.agr (hT7.gr.agr fun k _ h=>(HX.out.sep k h).2)).sub fun k _ h=>hT7.more k h) (fun o ho=>by obtain rfl:=List.mem_singleton.1 ho;decide) (HTB.out.below HB7.out) (by decide) (by decide)
  rw[aw_hear2] at this
  exact this
 have HT7:=hid hT7
 clear hX7 hT7 HX6 HT6 HWT hB7
 go_upto_region 9 with(first
  |(refine load_at rfl _ _ rfl w2.heap.size _ _ _ rfl HCG7.out Tryz.underlying45 rfl HIN.out ?_)
  |(go_at_call 20;refine HE2.out.mono ?_;rintro e w8 ⟨rfl,X8,S8,hX8,hT8⟩))
 have hT8:=HT7.out.trans hT8
 have HCH8:=hid (hT8.gr.cells HCH.out hoh)
 have HB8:=hid (HB5.out.trans (hT8.gr.below HB5.out.size (fun k h=>(HOW.out k h).1)))
 have HE3:Hid (Calls Tryz.prog 20 #[.pointer (some ⟨w.heap.size+1,0,none⟩),.agg #[.int .i64 2,.int .i64 1,.int .i64 2,.slice (some ⟨w2.heap.size+1,0,none⟩) 1 1,.int .i64 1,.int .i64 1,.slice none 0 0]] w8 fun e w'=>e= .returned (.tuple #[.int .i64 0,.int .i64 210])∧∃X' S',BoxIn w.heap.size (w.heap.size+1) S' awb2.done awb2.done awb2.wait awb2.v X' w'∧BTo (w.heap.size+1) X8 S8 w8 X' S' w'):=by
  refine hid ?_
  have:=bxhear_any (b:=awb2) hX8 aw_ok2 secondG _ ((HG2'.out.agr (hT8.gr.agr fun k _ h=>(HX.out.sep k h).2)).sub fun k _ h=>hT8.more k h) (fun o ho=>by cases ho) (HTB.out.below HB8.out) (by decide) (by decide)
  rw[aw_hear3] at this
  exact this
 have HT8:=hid hT8
 clear hX8 hT8 HT7 HE2
 go_upto_region 10 with(first
  |(refine load_at rfl _ _ rfl (w2.heap.size+2) _ _ _ rfl HCH8.out Tryz.underlying45 rfl HIN.out ?_)
  |(go_at_call 20;refine HE3.out.mono ?_;rintro e w9 ⟨rfl,X9,S9,hX9,hT9⟩))
 have hT9:=HT8.out.trans hT9
 have HB9:=hid (HB5.out.trans (hT9.gr.below HB5.out.size (fun k h=>(HOW.out k h).1)))
 have HX9:=hid hX9
 clear hX9 hT9 HT8 HE3
 go_wp2_with (first
  |(go_at_call 21;refine(bxdone_any HX9.out (by decide)).mono ?_;rintro e w10 ⟨A10,c10,rfl,-,hB10⟩;have HB10:=hid hB10;clear hB10)
  |(go_at_call 22;refine(bxwait_any (HX9.out.below HB10.out) (by decide)).mono ?_;rintro e w11 ⟨A11,c11,rfl,-,hB11⟩;have HB11:=hid (HB10.out.trans (hB11.mono HB10.out.size));clear hB11)
  |(go_at_call 28;refine(bxvec_any (HX9.out.below HB11.out)).mono ?_;rintro e w12 ⟨A12,c12,rfl,hv12,-,hB12⟩;have HV12:=hid hv12;have HB12:=hid (HB11.out.trans (hB12.mono HB11.out.size));clear hv12 hB12))
 have HBV:=hid (show VecR (w12.alloc (.cells #[.int .i64 2] 3)) (some ⟨w12.heap.size,0,none⟩) [2] from fun k hk=>by
  obtain rfl:k=0:=by have:k<1:=hk;omega
  refine⟨⟨w12.heap.size,0,none⟩,rfl,by simp,?_⟩
  rw[Addr.add_mid,cell_of_row _ _ _ _ _ _ (heap_alloc_new w12 _)];rfl)
 have HAV:=hid (show VecR (w12.alloc (.cells #[.int .i64 2] 3)) A12 [2] from VecS.vec (S:=fun k=>w11.heap.size≤k) (RowG.agr HV12.out (Agr.below ((Below.refl _ w12).alloc (Nat.le_refl _) _))))
 refine(same_any A12 _ c12 1 [2] [2] _ (by decide) HAV.out HBV.out).mono ?_
 rintro e w13 ⟨rfl,hB13⟩
 have HB13:=hid (HB9.out.trans ((HB12.out.trans ((((Below.refl _ w12).alloc (Nat.le_refl _) (.cells #[.int .i64 2] 3)).trans (hB13.mono (by simp))).mono HB12.out.size)).mono HB9.out.size))
 go_wp2
 go_ret
 exact⟨rfl,HB13.out⟩
end
section
set_option linter.unusedVariables false
theorem drainF_mem:∀(f:Nat) (b:Bx),∀x∈(drainF f b).1.done++(drainF f b).1.wait,x∈b.done++b.wait
 |0,b,x,h=>h
 | f+1,b,x,h=>by
  cases hb:bestN b.v b.wait b.wait.length with
  |none=>rw[drainF_none hb] at h;exact h
  | some k=>
   have hk:=(bestN_lt hb).1
   cases ho:oldB b.v (b.wait.getD k gz) with
   |true=>
    rw[drainF_old hb ho] at h
    have:=drainF_mem f _ x h
    rcases List.mem_append.1 this with h1|h1
    ·exact List.mem_append.2 (.inl h1)
    ·exact List.mem_append.2 (.inr (List.mem_of_mem_eraseIdx h1))
   |false=>
    rw[drainF_put hb ho] at h
    have:=drainF_mem f _ x h
    simp only[Bx.put,List.mem_append,List.mem_singleton] at this
    rcases this with(h1|rfl)|h1
    ·exact List.mem_append.2 (.inl h1)
    ·exact List.mem_append.2 (.inr (getD_mem hk))
    ·exact List.mem_append.2 (.inr (List.mem_of_mem_eraseIdx h1))
theorem hearB_mem (b:Bx) (g:Grp):∀x∈(hearB b g).1.done++(hearB b g).1.wait,x∈b.done++b.wait∨x=g:=by
 intro x
 unfold hearB
 split
 ·exact .inl
 ·split
  ·exact .inl
  ·split
   ·intro h
    have:=drainF_mem _ _ x h
    simp only[Bx.put,List.mem_append,List.mem_singleton] at this
    rcases this with(h1|h1)|h1
    ·exact .inl (List.mem_append.2 (.inl h1))
    ·exact .inr h1
    ·exact .inl (List.mem_append.2 (.inr h1))
   ·split
    ·exact .inl
    ·intro h
     simp only[List.mem_append,List.mem_singleton] at h
     rcases h with h1|h1|h1
     ·exact .inl (List.mem_append.2 (.inl h1))
     ·exact .inl (List.mem_append.2 (.inr h1))
     ·exact .inr h1
end
section
open Go.RowKit Go.Lib Go.Sort
set_option linter.unusedVariables false
attribute [local go_sem ↓] Go.wp_at_zero Go.wp_at_succ
structure Heard (B P:Nat) (X0:BoxX) (S0:Nat→Prop) (w0:World) (n:Nat) (T:Grp→Prop) (b:Bx) (wr:World):Prop where
 ok:BxOk b
 wl:b.wait.length≤100
 len:b.done.length+b.wait.length≤n
 txt:∀g∈b.done++b.wait,T g
 box:∃X S,BoxIn B P S b.done b.done b.wait b.v X wr∧BTo P X0 S0 w0 X S wr
theorem Heard.hear {B P:Nat} {X0:BoxX} {S0:Nat→Prop} {w0 wr:World} {n:Nat} {T:Grp→Prop} {b:Bx} (h:Heard B P X0 S0 w0 n T b wr) (hn:n≤999999) (h0:∀k,S0 k→¬Own P X0 k) (p:Grp×GrX) (hG:GrG w0 S0 p) (hT:T p.1) (hTx:∀o∈p.1.ops,o.text.size<9223372036854775807) (hTb:Tabs wr):
  Calls Tryz.prog 20 #[.pointer (some ⟨P,0,none⟩),.agg (grA p.1 p.2.dA p.2.dc p.2.oA p.2.oc)] wr fun e w'=>e= .returned (.tuple #[.int .i64 ((hearB b p.1).2.1:Nat),.int .i64 (hearB b p.1).2.2])∧Heard B P X0 S0 w0 (n+1) T (hearB b p.1).1 w':=by
 obtain⟨X,S,hX,hT1⟩:=h.box
 refine(bxhear_any hX h.ok p.1 p.2 ((hG.agr (hT1.gr.agr fun k _ hk=>h0 k hk)).sub fun k _ hk=>hT1.more k hk) hTx hTb h.wl (by have:=h.len;omega)).mono ?_
 rintro e w' ⟨rfl,X',S',hX',hT'⟩
 have hl:=hearB_len b p.1 h.wl
 have:=h.len
 refine⟨rfl,hearB_ok h.ok _,hl.1,by omega,fun g hg=> ?_,X',S',hX',hT1.trans hT'⟩
 rcases hearB_mem b p.1 g hg with h1|rfl
 ·exact h.txt g h1
 ·exact hT
theorem Heard.gr {B P:Nat} {X0:BoxX} {S0:Nat→Prop} {w0 wr:World} {n:Nat} {T:Grp→Prop} {b:Bx} (h:Heard B P X0 S0 w0 n T b wr):GrB (Own P X0) w0 wr:=by
 obtain⟨X,S,hX,hT⟩:=h.box
 exact hT.gr
end
end Go.Proofs.YtkhmicndehlneaaGreatDoor
