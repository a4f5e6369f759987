/- Part 16 of the walks and plain laws that this claim uses, joined. Conditions: as each theorem states. -/
import Derived.Test.YtkhmicndehlneaaGreatDoorYso
namespace Go.Proofs.YtkhmicndehlneaaGreatDoor
set_option maxRecDepth 100000
set_option maxHeartbeats 16000000
section
open Go.RowKit Go.Lib Go.Sort
set_option linter.unusedVariables false
attribute [local go_sem ↓] Go.wp_at_zero Go.wp_at_succ
theorem RbOk.hear {b:Bx} (h:RbOk b) (hw:b.wait.length≤100) (g:Grp) (hT:∀o∈g.ops,o.text.size≤1000000) (hl:b.done.length+b.wait.length≤99999):RbOk (hearB b g).1:=
 ⟨hearB_ok h.ok g,fun x hx=>by rcases hearB_mem b g x hx with h1|rfl;exact h.txt x h1;exact hT,by have:=(hearB_len b g hw).2;omega⟩
theorem own_baseR {w:World} {B B' E s n:Nat} {v:Value} {xs:List Value} (h:w.ownsRow B E s v n xs) (hB:B'≤B):w.ownsRow B' E s v n xs:=by
 refine⟨h.1,?_⟩
 rcases h.2 with h1|⟨g,cap,cur,e,h2,h3⟩
 ·exact .inl h1
 ·exact .inr ⟨g,cap,cur,e,Nat.le_trans hB h2,h3⟩
theorem rbhear_any {B P:Nat} {S:Nat→Prop} {b:Bx} {X:RbX} {w:World} (h:RbIn B P S b.done b.wait X w) (ho:RbOk b) (g:Grp) (x:GrX) (hG:GrG w S (g,x)) (htx:∀o∈g.ops,o.text.size≤1000000) (hwl:b.wait.length≤100) (hlen:b.done.length+b.wait.length≤99999) (hck0:chkB g=true):
  Calls Tryz.prog 34 #[.pointer (some ⟨P,0,none⟩),.agg (grA g x.dA x.dc x.oA x.oc)] w fun e w'=>e= .returned (.tuple #[.int .i64 ((hearB b g).2.1:Nat),.int .i64 (hearB b g).2.2])∧∃X',RbIn B P S (hearB b g).1.done (hearB b g).1.wait X' w'∧RbTo P X w X' w':=by
 obtain⟨i0,hi,hz0,hz1,hz2⟩:=info_parts infogrC_
 obtain⟨R,hR⟩:∃R,R=hearB b g:=⟨_,rfl⟩
 rw[←hR]
 obtain⟨⟨t,r⟩,n,u,⟨ut,ur⟩,ops⟩:=g
 obtain⟨dA,dc,oA,oc⟩:=x
 obtain⟨g,hg⟩:∃g:Grp,g=⟨⟨t,r⟩,n,u,⟨ut,ur⟩,ops⟩:=⟨_,rfl⟩
 obtain⟨x,hx⟩:∃x:GrX,x=⟨dA,dc,oA,oc⟩:=⟨_,rfl⟩
 have HAG:=hid (show grA g x.dA x.dc x.oA x.oc=([.int .i64 t,.int .i64 r,.int .i64 n,.slice dA u.length dc,.int .i64 ut,.int .i64 ur,.slice oA ops.length oc]:List Value).toArray by rw[hg,hx];rfl)
 have HGE:=hid (show g=((⟨⟨t,r⟩,n,u,⟨ut,ur⟩,ops⟩:Grp),(⟨dA,dc,oA,oc⟩:GrX)).1 from hg)
 have HXE:=hid (show x=((⟨⟨t,r⟩,n,u,⟨ut,ur⟩,ops⟩:Grp),(⟨dA,dc,oA,oc⟩:GrX)).2 from hx)
 rw[←hg] at hR hG htx hck0
 rw[←hx] at hG
 have hba:Below w.heap.size w (w.alloc (.cells ([.int .i64 t,.int .i64 r,.int .i64 n,.slice dA u.length dc,.int .i64 ut,.int .i64 ur,.slice oA ops.length oc]:List Value).toArray 45)):=(Below.refl _ _).alloc (Nat.le_refl _) _
 have HC:=hid (heap_alloc_new w (.cells ([.int .i64 t,.int .i64 r,.int .i64 n,.slice dA u.length dc,.int .i64 ut,.int .i64 ur,.slice oA ops.length oc]:List Value).toArray 45))
 have HCK:=hid (fun W (hB:Below w.heap.size w W)=>vchk_any g x.dA x.dc x.oA x.oc S W (GrIn.agr hG (Agr.below hB)) (fun _=>htx) hck0)
 have HX:=hid h
 have HOK:=hid ho
 have HGG:=hid hG
 have HIN:=hid (show(Tryz.prog.info? 45).map (·.size)=some ([.int .i64 t,.int .i64 r,.int .i64 n,.slice dA u.length dc,.int .i64 ut,.int .i64 ur,.slice oA ops.length oc]:List Value).toArray.size by kernel_rfl)
 rw[HAG.out] at HCK
 show Calls _ _ #[.pointer (some ⟨P,0,none⟩),.agg ([.int .i64 t,.int .i64 r,.int .i64 n,.slice dA u.length dc,.int .i64 ut,.int .i64 ur,.slice oA ops.length oc]:List Value).toArray] _ _
 have HBA:=hid hba
 have HXW:=hid (h.below hba)
 have HOL:=hid (fun q hq=>(h.own_lt (k:=q) hq).2)
 have HLEN:=hid hlen
 have HTG:=hid htx
 clear hba h ho hG htx hg hx
 cases hck:chkB g with
 |false=>rw[hck] at hck0;cases hck0
 | true =>
  rw[hck] at HCK
  clear hck0
  have HCK2:Hid (∀W,Below w.heap.size w W→Calls Tryz.prog 54 #[.agg ([.int .i64 t,.int .i64 r,.int .i64 n,.slice dA u.length dc,.int .i64 ut,.int .i64 ur,.slice oA ops.length oc]:List Value).toArray] W fun e w'=>e= .returned (.int .i64 0)∧Below W.heap.size W w'):=HCK
  clear HCK
  obtain⟨kn,hkn⟩:∃k,k=knownB b g:=⟨_,rfl⟩
  have HKN:=hid (fun W (hB:Below w.heap.size w W)=>(show Calls Tryz.prog 67 #[.pointer (some ⟨P,0,none⟩),.agg ([.int .i64 t,.int .i64 r,.int .i64 n,.slice dA u.length dc,.int .i64 ut,.int .i64 ur,.slice oA ops.length oc]:List Value).toArray] W fun e w'=>e= .returned (.bool kn)∧Below W.heap.size W w' by
   rw[hkn,←HAG.out];exact rbstale_any (HX.out.below hB) HOK.out g x))
  cases kn with
  | true=>
   obtain rfl:R=(b,0,210):=by rw[hR];unfold hearB;rw[if_neg (by rw[hck];decide),if_pos hkn.symm]
   clear hck hkn hR
   go_enter Tryz.func34,Tryz.ntmps34
   go_upto_region 1 with fail
   generalize hW:w.alloc (.cells ([.int .i64 t,.int .i64 r,.int .i64 n,.slice dA u.length dc,.int .i64 ut,.int .i64 ur,.slice oA ops.length oc]:List Value).toArray 45)=W at *
   clear hW
   go_wp2_with (first
    |(refine load_at rfl _ _ rfl w.heap.size _ _ _ rfl HC.out Tryz.underlying45 rfl HIN.out ?_)
    |(refine load_at rfl _ _ rfl w.heap.size _ _ _ rfl HC1.out Tryz.underlying45 rfl HIN.out ?_)
    |(go_at_call 54;refine(HCK2.out _ HBA.out).mono ?_;rintro e w1 ⟨rfl,hB1⟩;have HC1:=hid ((hB1.block w.heap.size (lt_of_block HC.out)).trans HC.out);have HB1:=hid (HBA.out.trans (hB1.mono HBA.out.size));clear hB1)
    |(go_at_call 67;refine(HKN.out _ HB1.out).mono ?_;rintro e w2 ⟨rfl,hB2⟩))
   go_ret2
   exact⟨rfl,X,(HX.out.below HB1.out).below hB2,(RbTo.of_below HB1.out).trans (RbTo.of_below hB2)⟩
  | false=>
   obtain⟨hold,hnew⟩:=not_known hkn.symm
   have hdl:=chk_dl hck
   obtain⟨rd,hrd⟩:∃r,r=readyB b.v g:=⟨_,rfl⟩
   have HRD:=hid (fun W (hB:Below w.heap.size w W)=>(show Calls Tryz.prog 68 #[.pointer (some ⟨P,0,none⟩),.agg ([.int .i64 t,.int .i64 r,.int .i64 n,.slice dA u.length dc,.int .i64 ut,.int .i64 ur,.slice oA ops.length oc]:List Value).toArray] W fun e w'=>e= .returned (.bool rd)∧Below W.heap.size W w' by
    rw[hrd,←HAG.out];exact rbready_any (HX.out.below hB) HOK.out g x (HGG.out.agr (Agr.below hB)) hdl))
   obtain⟨wA,wc,hwv⟩:=row_slice HX.out.wait
   obtain⟨eA,ec,hdv⟩:=row_slice HX.out.done
   have HWV:=hid hwv
   have HDV:=hid hdv
   have hw:b.wait.length=X.M.length:=HX.out.wlen.symm
   have hd:b.done.length=X.L.length:=HX.out.dlen.symm
   cases rd with
   | false=>
    have HPW:=hid (fun W (hB:Below w.heap.size w W)=>(show W.cell? ⟨P,1,none⟩=some (.slice wA X.M.length wc) by rw[(HX.out.below hB).cell,HWV.out];rfl))
    by_cases hfull:100≤b.wait.length
    ·obtain rfl:R=(b,0,211):=by rw[hR];unfold hearB;rw[if_neg (by rw[hck];decide),if_neg (by rw[←hkn];decide),if_neg (by rw[←hrd];decide),if_pos hfull]
     have i1:(100:Int)≤(X.M.length:Int):=by omega
     clear hck hkn hR hold hnew hrd hdl hw hd hwv hdv hfull
     go_enter Tryz.func34,Tryz.ntmps34
     go_upto_region 1 with fail
     generalize hW:w.alloc (.cells ([.int .i64 t,.int .i64 r,.int .i64 n,.slice dA u.length dc,.int .i64 ut,.int .i64 ur,.slice oA ops.length oc]:List Value).toArray 45)=W at *
     clear hW
     go_wp2_with (first
      |(refine load_at rfl _ _ rfl w.heap.size _ _ _ rfl HC.out Tryz.underlying45 rfl HIN.out ?_)
      |(refine load_at rfl _ _ rfl w.heap.size _ _ _ rfl HC1.out Tryz.underlying45 rfl HIN.out ?_)
      |(refine load_at rfl _ _ rfl w.heap.size _ _ _ rfl HC2.out Tryz.underlying45 rfl HIN.out ?_)
      |(go_at_call 54;refine(HCK2.out _ HBA.out).mono ?_;rintro e w1 ⟨rfl,hB1⟩;have HC1:=hid ((hB1.block w.heap.size (lt_of_block HC.out)).trans HC.out);have HB1:=hid (HBA.out.trans (hB1.mono HBA.out.size));clear hB1)
      |(go_at_call 67;refine(HKN.out _ HB1.out).mono ?_;rintro e w2 ⟨rfl,hB2⟩;have HC2:=hid ((hB2.block w.heap.size (lt_of_block HC1.out)).trans HC1.out);have HB2:=hid (HB1.out.trans (hB2.mono HB1.out.size));clear hB2)
      |(go_at_call 68;refine(HRD.out _ HB2.out).mono ?_;rintro e w3 ⟨rfl,hB3⟩;have HB3:=hid (HB2.out.trans (hB3.mono HB2.out.size));have p3:=HPW.out _ HB3.out;clear hB3))
     go_ret2
     exact⟨rfl,X,HX.out.below HB3.out,RbTo.of_below HB3.out⟩
    ·obtain rfl:R=(⟨b.done,b.wait++[g],b.v⟩,0,0):=by rw[hR];unfold hearB;rw[if_neg (by rw[hck];decide),if_neg (by rw[←hkn];decide),if_neg (by rw[←hrd];decide),if_neg hfull]
     have i1:¬(100:Int)≤(X.M.length:Int):=by omega
     have i1d:decide ((100:Int)≤(X.M.length:Int))=false:=decide_eq_false i1
     have HML:=hid (show X.M.length≤100000 by omega)
     clear hck hkn hR hold hnew hrd hdl hw hd hwv hdv hfull
     go_enter Tryz.func34,Tryz.ntmps34
     go_upto_region 1 with fail
     generalize hW:w.alloc (.cells ([.int .i64 t,.int .i64 r,.int .i64 n,.slice dA u.length dc,.int .i64 ut,.int .i64 ur,.slice oA ops.length oc]:List Value).toArray 45)=W at *
     clear hW
     go_upto_region 9 with(first
      |(refine load_at rfl _ _ rfl w.heap.size _ _ _ rfl HC.out Tryz.underlying45 rfl HIN.out ?_)
      |(refine load_at rfl _ _ rfl w.heap.size _ _ _ rfl HC1.out Tryz.underlying45 rfl HIN.out ?_)
      |(refine load_at rfl _ _ rfl w.heap.size _ _ _ rfl HC2.out Tryz.underlying45 rfl HIN.out ?_)
      |(go_at_call 54;refine(HCK2.out _ HBA.out).mono ?_;rintro e w1 ⟨rfl,hB1⟩;have HC1:=hid ((hB1.block w.heap.size (lt_of_block HC.out)).trans HC.out);have HB1:=hid (HBA.out.trans (hB1.mono HBA.out.size));clear hB1)
      |(go_at_call 67;refine(HKN.out _ HB1.out).mono ?_;rintro e w2 ⟨rfl,hB2⟩;have HC2:=hid ((hB2.block w.heap.size (lt_of_block HC1.out)).trans HC1.out);have HB2:=hid (HB1.out.trans (hB2.mono HB1.out.size));clear hB2)
      |(go_at_call 68;refine(HRD.out _ HB2.out).mono ?_;rintro e w3 ⟨rfl,hB3⟩;have HC3:=hid ((hB3.block w.heap.size (lt_of_block HC2.out)).trans HC2.out);have HB3:=hid (HB2.out.trans (hB3.mono HB2.out.size));have p3:=HPW.out _ HB3.out;clear hB3))
     have HX3:=hid (HX.out.below HB3.out)
     have HG3:=hid (show GrG w3 S ((⟨⟨t,r⟩,n,u,⟨ut,ur⟩,ops⟩:Grp),(⟨dA,dc,oA,oc⟩:GrX)) by have:=HGG.out.agr (Agr.below HB3.out);rw[HGE.out,HXE.out] at this;exact this)
     have hw3:w.heap.size<w3.heap.size:=lt_of_block HC3.out
     have hPn:P<w.heap.size:=HOL.out P (.inl rfl)
     clear p3
     have hP3:P<w3.heap.size:=lt_of_block HX3.out.obj
     have p3:w3.cell? ⟨P,1,none⟩=some (.slice wA X.M.length wc):=by rw[HX3.out.cell,HWV.out];rfl
     refine wp_region_held (S:=fun w'=>w'.heap[w.heap.size]? =some (.cells ([.int .i64 t,.int .i64 r,.int .i64 n,.slice dA u.length dc,.int .i64 ut,.int .i64 ur,.slice oA ops.length oc]:List Value).toArray 45 (0,0))) (by kernel_rfl) ?_
     try(change wpAnyH _ _ _ _ _ _ _ _ (World.drew _))
     refine tk 0 (.pointer (some ⟨P,0,none⟩)) ((show w3.drew.heap[w.heap.size]? =_ from HC3.out)) ?_
     go_simp
     refine tk 1 (.pointer (some ⟨P,0,none⟩)) ((show w3.drew.heap[w.heap.size]? =_ from HC3.out)) ?_
     go_simp
     refine tk 2 (.pointer (some ⟨P,0,none⟩)) ((show w3.drew.heap[w.heap.size]? =_ from HC3.out)) ?_
     go_simp
     refine tk 3 (.pointer (some ⟨P,1,none⟩)) ((show w3.drew.heap[w.heap.size]? =_ from HC3.out)) ?_
     go_simp
     refine wpAnyH_take (i:=5) (v:= .agg ([.int .i64 t,.int .i64 r,.int .i64 n,.slice dA u.length dc,.int .i64 ut,.int .i64 ur,.slice oA ops.length oc]:List Value).toArray) rfl (by kernel_rfl) (by kernel_rfl) (by kernel_rfl) (fun _ _ _ h=>h) (yieldsIf_load_mid (by rfl) _ _ rfl w.heap.size 0 rfl [.int .i64 t,.int .i64 r,.int .i64 n,.slice dA u.length dc,.int .i64 ut,.int .i64 ur,.slice oA ops.length oc] _ (fun W' hW'=>range_of_block hW') Tryz.underlying45 rfl (by kernel_rfl)) ((show w3.drew.heap[w.heap.size]? =_ from HC3.out)) ?_
     go_simp
     have HBA3:=hid (show Below w3.heap.size w3 (w3.alloc (.cells ([.int .i64 t,.int .i64 r,.int .i64 n,.slice dA u.length dc,.int .i64 ut,.int .i64 ur,.slice oA ops.length oc]:List Value).toArray 45)).drew from⟨rfl,rfl,rfl,by simp,fun k hk=>Below.heap_alloc _ _ _ hk⟩)
     have HCA:=hid (show(w3.alloc (.cells ([.int .i64 t,.int .i64 r,.int .i64 n,.slice dA u.length dc,.int .i64 ut,.int .i64 ur,.slice oA ops.length oc]:List Value).toArray 45)).drew.heap[w.heap.size]? =_ from(Below.heap_alloc w3 (.cells ([.int .i64 t,.int .i64 r,.int .i64 n,.slice dA u.length dc,.int .i64 ut,.int .i64 ur,.slice oA ops.length oc]:List Value).toArray 45) _ hw3).trans HC3.out)
     have HDN:=hid (HX3.out.wait.alloc (.cells ([.int .i64 t,.int .i64 r,.int .i64 n,.slice dA u.length dc,.int .i64 ut,.int .i64 ur,.slice oA ops.length oc]:List Value).toArray 45))
     have HNC:=hid (fun (j:Nat) (y:Value) (h:([.int .i64 t,.int .i64 r,.int .i64 n,.slice dA u.length dc,.int .i64 ut,.int .i64 ur,.slice oA ops.length oc]:List Value)[j]? =some y)=>cellsN w3 [.int .i64 t,.int .i64 r,.int .i64 n,.slice dA u.length dc,.int .i64 ut,.int .i64 ur,.slice oA ops.length oc] 45 j y h)
     have hsA:(w3.alloc (.cells ([.int .i64 t,.int .i64 r,.int .i64 n,.slice dA u.length dc,.int .i64 ut,.int .i64 ur,.slice oA ops.length oc]:List Value).toArray 45)).drew.heap.size=w3.heap.size+1:=by show(w3.alloc _).heap.size=_;simp
     have pA3:(w3.alloc (.cells ([.int .i64 t,.int .i64 r,.int .i64 n,.slice dA u.length dc,.int .i64 ut,.int .i64 ur,.slice oA ops.length oc]:List Value).toArray 45)).drew.cell? ⟨P,1,none⟩=some (.slice wA X.M.length wc):=by show(w3.alloc _).cell? _=_;rw[crw ((Below.heap_alloc w3 (.cells ([.int .i64 t,.int .i64 r,.int .i64 n,.slice dA u.length dc,.int .i64 ut,.int .i64 ur,.slice oA ops.length oc]:List Value).toArray 45) P hP3).trans HX3.out.obj),HWV.out];rfl
     rw[HWV.out] at HDN
     refine wpAnyH_ready (rs:=[4,6]) (by kernel_rfl) (by simp) ?_
     refine AllReadyH.cons rfl (fun K hK=> ?_) (AllReadyH.cons rfl (fun K hK=> ?_) AllReadyH.nil)
     focus
      go_simp
      refine hK.out _ _ ((show w3.drew.heap[w.heap.size]? =_ from HC3.out)) (fun _=> ?_)
      clear hK K
      refine wpAnyH_ready (rs:=[6]) (by kernel_rfl) (by simp) ?_
      refine AllReadyH.cons rfl (fun K hK=> ?_) AllReadyH.nil
      go_simp
      refine hK.out _ _ (HCA.out) (fun _=> ?_)
      clear hK K
     rotate_left
     focus
      go_simp
      refine hK.out _ _ (HCA.out) (fun _=> ?_)
      clear hK K
      refine wpAnyH_ready (rs:=[4]) (by kernel_rfl) (by simp) ?_
      refine AllReadyH.cons rfl (fun K hK=> ?_) AllReadyH.nil
      go_simp
      refine hK.out _ _ (HCA.out) (fun _=> ?_)
      clear hK K
     all_goals
      refine wpAnyH_ready (rs:=[7]) (by kernel_rfl) (by simp) ?_
      refine AllReadyH.cons rfl (fun K hK=> ?_) AllReadyH.nil
      refine step_append_lies _ (by rfl) _ _ 25 (by rfl) B 45 i0 (.agg #[.int .i64 0,.int .i64 0,.int .i64 0,.slice none 0 0,.int .i64 0,.int .i64 0,.slice none 0 0]) 7 88 Tryz.underlying25 hi hz0 hz1 hz2 rfl (by decide) (.slice wA X.M.length wc) X.M.length _ (by rfl) (by exact HDN.out) ⟨w3.heap.size,0,none⟩ 1 1 [.int .i64 t,.int .i64 r,.int .i64 n,.slice dA u.length dc,.int .i64 ut,.int .i64 ur,.slice oA ops.length oc] (by rfl) rfl (by exact HNC.out) (by exact ocgrC_ ((⟨⟨t,r⟩,n,u,⟨ut,ur⟩,ops⟩:Grp),(⟨dA,dc,oA,oc⟩:GrX))) (by decide) (by have:=HML.out;unfold maxLen;omega) (by have:=HML.out;omega) (by have:=HX3.out.hP;rw[hsA];omega) (w3.heap.size+1) hsA ?_
      intro gq cap w5 hown1 hgrow hat hlt3
      rw[←HWV.out] at hgrow hat
      have hgne:some (w.heap.size)≠X.wv.ownBlock:=fun e=>by have:=HOL.out _ (.inr (.inr e.symm));omega
      have HC5:=hid ((hgrow.block (w.heap.size) (by rw[hsA];omega) hgne).trans HCA.out)
      have hPd:some P≠X.wv.ownBlock:=fun e=>HX3.out.wP e.symm
      have hob:=(hgrow.block P (by rw[hsA];omega) hPd).trans ((HBA3.out.block P hP3).trans HX3.out.obj)
      have d5:w5.cell? ⟨P,1,none⟩=some (.slice wA X.M.length wc):=by rw[crw hob,HWV.out];rfl
      have f5:w5.frozen? ⟨P,1,none⟩=false:=frozen_of_row _ _ _ _ _ hob
      have hown2:w5.ownsRow B 45 7 (.slice (some ⟨gq,0,none⟩) (X.M.length+1) cap) (X.M++[((⟨⟨t,r⟩,n,u,⟨ut,ur⟩,ops⟩:Grp),(⟨dA,dc,oA,oc⟩:GrX))]).length ((X.M++[((⟨⟨t,r⟩,n,u,⟨ut,ur⟩,ops⟩:Grp),(⟨dA,dc,oA,oc⟩:GrX))]).flatMap grC_):=by rw[List.length_append,List.flatMap_append,List.flatMap_singleton];exact hown1
      have HPUT:=hid (HX3.out.wset (wv':= .slice (some ⟨gq,0,none⟩) (X.M.length+1) cap) (M':=X.M++[((⟨⟨t,r⟩,n,u,⟨ut,ur⟩,ops⟩:Grp),(⟨dA,dc,oA,oc⟩:GrX))]) HBA3.out hgrow hown2 (hat.elim (fun e=> .inl (by rw[e];rfl)) (fun e=> .inr (fun k hk=>by have hk:some gq=some k:=hk;injection hk with hk;omega))) (fun p hp=>by rcases List.mem_append.1 hp with hp|hp;exact HX3.out.good p (List.mem_append.2 (.inr hp));rw[List.mem_singleton] at hp;rw[hp];exact HG3.out))
      clear hown1 hown2 hgrow hat hgne hPd hlt3 hob
      refine hK.out _ _ (HC5.out) (fun _=> ?_)
      clear hK K
      refine tk 8 (.pointer (some ⟨P,0,none⟩)) (HC5.out) ?_
      go_simp
      refine tk 9 (.pointer (some ⟨P,1,none⟩)) (HC5.out) ?_
      go_simp
      refine wpAnyH_ready (rs:=[10]) (by kernel_rfl) (by simp) ?_
      refine AllReadyH.cons rfl (fun K hK=> ?_) AllReadyH.nil
      go_simp
      have HC6:=hid ((Below.heap_setCell w5 ⟨P,1,none⟩ (.slice (some ⟨gq,0,none⟩) (X.M.length+1) cap) (w.heap.size) (by show w.heap.size≠P;omega)).trans HC5.out)
      refine hK.out _ _ (HC6.out) (fun _=> ?_)
      clear hK K
      refine wpAnyH_done (by kernel_rfl) ?_ _
      go_simp
      obtain⟨hX6,hT6⟩:=HPUT.out
      go_wp2
      go_ret2
      refine⟨rfl,_,?_,(RbTo.of_below HB3.out).trans hT6⟩
      have:=hX6
      rw[List.map_append,HX3.out.wl] at this
      rw[HGE.out]
      exact this
   | true =>
    obtain⟨D,hD⟩:∃D,D=drainF b.wait.length (b.put g):=⟨_,rfl⟩
    obtain rfl:R=(D.1,D.2+1,0):=by rw[hR,hD];unfold hearB;rw[if_neg (by rw[hck];decide),if_neg (by rw[←hkn];decide),if_pos hrd.symm]
    have HPOK:=hid (HOK.out.ok.put hck hrd.symm hold hnew)
    have HTX:=hid (show ∀y∈(b.put g).done++(b.put g).wait,∀o∈y.ops,o.text.size≤1000000 from fun y hy=>by
     simp only[Bx.put,List.mem_append,List.mem_singleton] at hy
     rcases hy with(hy|rfl)|hy
     ·exact HOK.out.txt y (List.mem_append.2 (.inl hy))
     ·exact HTG.out
     ·exact HOK.out.txt y (List.mem_append.2 (.inr hy)))
    have HML:=hid (show X.L.length≤100000 by omega)
    have HD:=hid hD
    clear hck hkn hR hold hnew hrd hdl hw hd hwv hdv hD
    go_enter Tryz.func34,Tryz.ntmps34
    go_upto_region 1 with fail
    generalize hW:w.alloc (.cells ([.int .i64 t,.int .i64 r,.int .i64 n,.slice dA u.length dc,.int .i64 ut,.int .i64 ur,.slice oA ops.length oc]:List Value).toArray 45)=W at *
    clear hW
    go_upto_region 11 with(first
     |(refine load_at rfl _ _ rfl w.heap.size _ _ _ rfl HC.out Tryz.underlying45 rfl HIN.out ?_)
     |(refine load_at rfl _ _ rfl w.heap.size _ _ _ rfl HC1.out Tryz.underlying45 rfl HIN.out ?_)
     |(refine load_at rfl _ _ rfl w.heap.size _ _ _ rfl HC2.out Tryz.underlying45 rfl HIN.out ?_)
     |(go_at_call 54;refine(HCK2.out _ HBA.out).mono ?_;rintro e w1 ⟨rfl,hB1⟩;have HC1:=hid ((hB1.block w.heap.size (lt_of_block HC.out)).trans HC.out);have HB1:=hid (HBA.out.trans (hB1.mono HBA.out.size));clear hB1)
     |(go_at_call 67;refine(HKN.out _ HB1.out).mono ?_;rintro e w2 ⟨rfl,hB2⟩;have HC2:=hid ((hB2.block w.heap.size (lt_of_block HC1.out)).trans HC1.out);have HB2:=hid (HB1.out.trans (hB2.mono HB1.out.size));clear hB2)
     |(go_at_call 68;refine(HRD.out _ HB2.out).mono ?_;rintro e w3 ⟨rfl,hB3⟩;have HC3:=hid ((hB3.block w.heap.size (lt_of_block HC2.out)).trans HC2.out);have HB3:=hid (HB2.out.trans (hB3.mono HB2.out.size));clear hB3))
    have HX3:=hid (HX.out.below HB3.out)
    have HG3:=hid (show GrG w3 S ((⟨⟨t,r⟩,n,u,⟨ut,ur⟩,ops⟩:Grp),(⟨dA,dc,oA,oc⟩:GrX)) by have:=HGG.out.agr (Agr.below HB3.out);rw[HGE.out,HXE.out] at this;exact this)
    have hw3:w.heap.size<w3.heap.size:=lt_of_block HC3.out
    have hPn:P<w.heap.size:=HOL.out P (.inl rfl)
    have hP3:P<w3.heap.size:=lt_of_block HX3.out.obj
    have p3:w3.cell? ⟨P,0,none⟩=some (.slice eA X.L.length ec):=by rw[HX3.out.cell,HDV.out];rfl
    refine wp_region_held (S:=fun w'=>w'.heap[w.heap.size]? =some (.cells ([.int .i64 t,.int .i64 r,.int .i64 n,.slice dA u.length dc,.int .i64 ut,.int .i64 ur,.slice oA ops.length oc]:List Value).toArray 45 (0,0))) (by kernel_rfl) ?_
    try(change wpAnyH _ _ _ _ _ _ _ _ (World.drew _))
    refine tk 0 (.pointer (some ⟨P,0,none⟩)) ((show w3.drew.heap[w.heap.size]? =_ from HC3.out)) ?_
    go_simp
    refine tk 1 (.pointer (some ⟨P,0,none⟩)) ((show w3.drew.heap[w.heap.size]? =_ from HC3.out)) ?_
    go_simp
    refine tk 2 (.pointer (some ⟨P,0,none⟩)) ((show w3.drew.heap[w.heap.size]? =_ from HC3.out)) ?_
    go_simp
    refine tk 3 (.pointer (some ⟨P,0,none⟩)) ((show w3.drew.heap[w.heap.size]? =_ from HC3.out)) ?_
    go_simp
    refine wpAnyH_take (i:=5) (v:= .agg ([.int .i64 t,.int .i64 r,.int .i64 n,.slice dA u.length dc,.int .i64 ut,.int .i64 ur,.slice oA ops.length oc]:List Value).toArray) rfl (by kernel_rfl) (by kernel_rfl) (by kernel_rfl) (fun _ _ _ h=>h) (yieldsIf_load_mid (by rfl) _ _ rfl w.heap.size 0 rfl [.int .i64 t,.int .i64 r,.int .i64 n,.slice dA u.length dc,.int .i64 ut,.int .i64 ur,.slice oA ops.length oc] _ (fun W' hW'=>range_of_block hW') Tryz.underlying45 rfl (by kernel_rfl)) ((show w3.drew.heap[w.heap.size]? =_ from HC3.out)) ?_
    go_simp
    have HBA3:=hid (show Below w3.heap.size w3 (w3.alloc (.cells ([.int .i64 t,.int .i64 r,.int .i64 n,.slice dA u.length dc,.int .i64 ut,.int .i64 ur,.slice oA ops.length oc]:List Value).toArray 45)).drew from⟨rfl,rfl,rfl,by simp,fun k hk=>Below.heap_alloc _ _ _ hk⟩)
    have HCA:=hid (show(w3.alloc (.cells ([.int .i64 t,.int .i64 r,.int .i64 n,.slice dA u.length dc,.int .i64 ut,.int .i64 ur,.slice oA ops.length oc]:List Value).toArray 45)).drew.heap[w.heap.size]? =_ from(Below.heap_alloc w3 (.cells ([.int .i64 t,.int .i64 r,.int .i64 n,.slice dA u.length dc,.int .i64 ut,.int .i64 ur,.slice oA ops.length oc]:List Value).toArray 45) _ hw3).trans HC3.out)
    have HDN:=hid (HX3.out.done.alloc (.cells ([.int .i64 t,.int .i64 r,.int .i64 n,.slice dA u.length dc,.int .i64 ut,.int .i64 ur,.slice oA ops.length oc]:List Value).toArray 45))
    have HNC:=hid (fun (j:Nat) (y:Value) (h:([.int .i64 t,.int .i64 r,.int .i64 n,.slice dA u.length dc,.int .i64 ut,.int .i64 ur,.slice oA ops.length oc]:List Value)[j]? =some y)=>cellsN w3 [.int .i64 t,.int .i64 r,.int .i64 n,.slice dA u.length dc,.int .i64 ut,.int .i64 ur,.slice oA ops.length oc] 45 j y h)
    have hsA:(w3.alloc (.cells ([.int .i64 t,.int .i64 r,.int .i64 n,.slice dA u.length dc,.int .i64 ut,.int .i64 ur,.slice oA ops.length oc]:List Value).toArray 45)).drew.heap.size=w3.heap.size+1:=by show(w3.alloc _).heap.size=_;simp
    have pA3:(w3.alloc (.cells ([.int .i64 t,.int .i64 r,.int .i64 n,.slice dA u.length dc,.int .i64 ut,.int .i64 ur,.slice oA ops.length oc]:List Value).toArray 45)).drew.cell? ⟨P,0,none⟩=some (.slice eA X.L.length ec):=by show(w3.alloc _).cell? _=_;rw[crw ((Below.heap_alloc w3 (.cells ([.int .i64 t,.int .i64 r,.int .i64 n,.slice dA u.length dc,.int .i64 ut,.int .i64 ur,.slice oA ops.length oc]:List Value).toArray 45) P hP3).trans HX3.out.obj),HDV.out];rfl
    rw[HDV.out] at HDN
    refine wpAnyH_ready (rs:=[4,6]) (by kernel_rfl) (by simp) ?_
    refine AllReadyH.cons rfl (fun K hK=> ?_) (AllReadyH.cons rfl (fun K hK=> ?_) AllReadyH.nil)
    focus
     go_simp
     refine hK.out _ _ ((show w3.drew.heap[w.heap.size]? =_ from HC3.out)) (fun _=> ?_)
     clear hK K
     refine wpAnyH_ready (rs:=[6]) (by kernel_rfl) (by simp) ?_
     refine AllReadyH.cons rfl (fun K hK=> ?_) AllReadyH.nil
     go_simp
     refine hK.out _ _ (HCA.out) (fun _=> ?_)
     clear hK K
    rotate_left
    focus
     go_simp
     refine hK.out _ _ (HCA.out) (fun _=> ?_)
     clear hK K
     refine wpAnyH_ready (rs:=[4]) (by kernel_rfl) (by simp) ?_
     refine AllReadyH.cons rfl (fun K hK=> ?_) AllReadyH.nil
     go_simp
     refine hK.out _ _ (HCA.out) (fun _=> ?_)
     clear hK K
    all_goals
     refine wpAnyH_ready (rs:=[7]) (by kernel_rfl) (by simp) ?_
     refine AllReadyH.cons rfl (fun K hK=> ?_) AllReadyH.nil
     refine step_append_lies _ (by rfl) _ _ 25 (by rfl) B 45 i0 (.agg #[.int .i64 0,.int .i64 0,.int .i64 0,.slice none 0 0,.int .i64 0,.int .i64 0,.slice none 0 0]) 7 88 Tryz.underlying25 hi hz0 hz1 hz2 rfl (by decide) (.slice eA X.L.length ec) X.L.length _ (by rfl) (by exact HDN.out) ⟨w3.heap.size,0,none⟩ 1 1 [.int .i64 t,.int .i64 r,.int .i64 n,.slice dA u.length dc,.int .i64 ut,.int .i64 ur,.slice oA ops.length oc] (by rfl) rfl (by exact HNC.out) (by exact ocgrC_ ((⟨⟨t,r⟩,n,u,⟨ut,ur⟩,ops⟩:Grp),(⟨dA,dc,oA,oc⟩:GrX))) (by decide) (by have:=HML.out;unfold maxLen;omega) (by have:=HML.out;omega) (by have:=HX3.out.hP;rw[hsA];omega) (w3.heap.size+1) hsA ?_
     intro gq cap w5 hown1 hgrow hat hlt3
     rw[←HDV.out] at hgrow hat
     have hgne:some (w.heap.size)≠X.dv.ownBlock:=fun e=>by have:=HOL.out _ (.inr (.inl e.symm));omega
     have HC5:=hid ((hgrow.block (w.heap.size) (by rw[hsA];omega) hgne).trans HCA.out)
     have hPd:some P≠X.dv.ownBlock:=fun e=>HX3.out.dP e.symm
     have hob:=(hgrow.block P (by rw[hsA];omega) hPd).trans ((HBA3.out.block P hP3).trans HX3.out.obj)
     have d5:w5.cell? ⟨P,0,none⟩=some (.slice eA X.L.length ec):=by rw[crw hob,HDV.out];rfl
     have f5:w5.frozen? ⟨P,0,none⟩=false:=frozen_of_row _ _ _ _ _ hob
     have hown2:w5.ownsRow B 45 7 (.slice (some ⟨gq,0,none⟩) (X.L.length+1) cap) (X.L++[((⟨⟨t,r⟩,n,u,⟨ut,ur⟩,ops⟩:Grp),(⟨dA,dc,oA,oc⟩:GrX))]).length ((X.L++[((⟨⟨t,r⟩,n,u,⟨ut,ur⟩,ops⟩:Grp),(⟨dA,dc,oA,oc⟩:GrX))]).flatMap grC_):=by rw[List.length_append,List.flatMap_append,List.flatMap_singleton];exact hown1
     have HPUT:=hid (HX3.out.dset (dv':= .slice (some ⟨gq,0,none⟩) (X.L.length+1) cap) (L':=X.L++[((⟨⟨t,r⟩,n,u,⟨ut,ur⟩,ops⟩:Grp),(⟨dA,dc,oA,oc⟩:GrX))]) HBA3.out hgrow hown2 (hat.elim (fun e=> .inl (by rw[e];rfl)) (fun e=> .inr (fun k hk=>by have hk:some gq=some k:=hk;injection hk with hk;omega))) (fun p hp=>by rcases List.mem_append.1 hp with hp|hp;exact HX3.out.good p (List.mem_append.2 (.inl hp));rw[List.mem_singleton] at hp;rw[hp];exact HG3.out))
     clear hown1 hown2 hgrow hat hgne hPd hlt3 hob
     refine hK.out _ _ (HC5.out) (fun _=> ?_)
     clear hK K
     refine tk 8 (.pointer (some ⟨P,0,none⟩)) (HC5.out) ?_
     go_simp
     refine tk 9 (.pointer (some ⟨P,0,none⟩)) (HC5.out) ?_
     go_simp
     refine wpAnyH_ready (rs:=[10]) (by kernel_rfl) (by simp) ?_
     refine AllReadyH.cons rfl (fun K hK=> ?_) AllReadyH.nil
     go_simp
     have HC6:=hid ((Below.heap_setCell w5 ⟨P,0,none⟩ (.slice (some ⟨gq,0,none⟩) (X.L.length+1) cap) (w.heap.size) (by show w.heap.size≠P;omega)).trans HC5.out)
     refine hK.out _ _ (HC6.out) (fun _=> ?_)
     clear hK K
     refine wpAnyH_done (by kernel_rfl) ?_ _
     go_simp
     obtain⟨hX6,hT6⟩:=HPUT.out
     have hput:(b.put g).done=b.done++[g]:=rfl
     have HX7:=hid (show RbIn B P S (b.put g).done (b.put g).wait { X with dv:= .slice (some ⟨gq,0,none⟩) (X.L.length+1) cap,L:=X.L++[((⟨⟨t,r⟩,n,u,⟨ut,ur⟩,ops⟩:Grp),(⟨dA,dc,oA,oc⟩:GrX))] } _ from(by have:=hX6;rw[List.map_append,HX3.out.dl] at this;rw[hput,HGE.out];exact this))
     have HT7:=hid ((RbTo.of_below HB3.out).trans hT6)
     generalize hV:w5.setCell ⟨P,0,none⟩ (.slice (some ⟨gq,0,none⟩) (X.L.length+1) cap)=V at *
     clear hV d5 f5 HPUT HC5 HC6 HBA3 HCA HDN HNC hsA pA3 hX6 hT6 hput
     generalize hXe:({ X with dv:= .slice (some ⟨gq,0,none⟩) (X.L.length+1) cap,L:=X.L++[((⟨⟨t,r⟩,n,u,⟨ut,ur⟩,ops⟩:Grp),(⟨dA,dc,oA,oc⟩:GrX))] }:RbX)=X1 at *
     clear hXe
     obtain⟨m,hm⟩:∃m,m=(b.put g).wait.length:=⟨_,rfl⟩
     have HM:=hid hm
     have hm100:m≤100:=by rw[hm];exact hwl
     clear hm
     go_upto_region 13 with fail
     go_loopg [7] m (fun gh c wr=>∃(bk:Bx) (nk:Nat) (Xk:RbX),c= .int .i64 nk∧bk.wait.length=gh∧nk+gh≤m+1∧Hid (RbIn B P S bk.done bk.wait Xk wr)∧Hid (RbTo P X w Xk wr)∧Hid (RbOk bk)∧Hid (D.1=(drainF bk.wait.length bk).1∧D.2+1=(drainF bk.wait.length bk).2+nk))
     case atStart=>exact⟨b.put g,1,X1,rfl,HM.out.symm,by omega,HX7,HT7,hid ⟨HPOK.out,HTX.out,by have:=HLEN.out;show(b.done++[g]).length+b.wait.length≤_;rw[List.length_append,List.length_singleton];omega⟩,hid (by rw[HD.out];exact⟨rfl,rfl⟩)⟩
     case round=>
      obtain⟨bk,nk,Xk,rfl,hmw,hnk,HXK,HTK,HRK,HEK⟩:=hrel
      obtain⟨mw,hmw2⟩:∃m,m=bk.wait.length:=⟨_,rfl⟩
      have hgk:gk=mw:=by omega
      subst hgk
      have HMW:=hid hmw
      clear hmw2 hmw
      have HNX:=hid (rbnext_any HXK.out HRK.out)
      rw[HMW.out] at HNX
      cases hbn:bestN bk.v bk.wait gk with
      | none=>
       rw[hbn] at HNX
       have hdr:=drainF_none (f:=bk.wait.length) (b:=bk) (by rw[HMW.out];exact hbn)
       have HR1:=hid (show D.1=bk∧D.2+1=nk by have:=HEK.out;rw[hdr] at this;simpa using this)
       have HNX2:Hid (Calls Tryz.prog 69 #[.pointer (some ⟨P,0,none⟩)] wr fun e w'=>e= .returned (.int .i64 (-1))∧Below wr.heap.size wr w'):=HNX
       clear hbn hdr HNX
       go_wp2_with (go_at_call 69;refine HNX2.out.mono ?_;rintro e w7 ⟨rfl,hB7⟩)
       try rw[Exit.noGoto_ret]
       go_ret2
       refine⟨?_,Xk,?_,HTK.out.trans (RbTo.of_below hB7)⟩
       ·show Ending.returned (.tuple #[.int .i64 (nk:Int),.int .i64 0])=Ending.returned (.tuple #[.int .i64 ((D.2+1:Nat):Int),.int .i64 0])
        rw[HR1.out.2]
       ·rw[HR1.out.1];exact HXK.out.below hB7
      | some j=>
       rw[hbn] at HNX
       have hjk:=(bestN_lt hbn).1
       obtain⟨q,hq⟩:∃q,j+q+1=gk:=⟨gk-(j+1),by omega⟩
       have HNX2:Hid (Calls Tryz.prog 69 #[.pointer (some ⟨P,0,none⟩)] wr fun e w'=>e= .returned (.int .i64 (j:Int))∧Below wr.heap.size wr w'):=HNX
       have hXM:Xk.M.length=gk:=by rw[HXK.out.wlen,HMW.out]
       have HBN:=hid (show bestN bk.v bk.wait bk.wait.length=some j by rw[HMW.out];exact hbn)
       obtain⟨wA2,wc2,hwv2⟩:=row_slice HXK.out.wait
       have hrow:=HXK.out.wait
       rw[hwv2] at hrow
       have HCEL:=hid (row_at hrow).2
       obtain⟨rb,ro,rfl,hrb,hrange⟩:=RowGr.range (RowGr.own hrow) (k:=j) (by rw[hXM];exact hjk)
       rcases hrow.2 with⟨-,h0⟩|⟨gq2,cap2,cur,he2,-,hblk,hnc,hcm,-,-⟩
       ·omega
       cases he2
       rw[hXM] at hwv2 hnc
       have HWV2:=hid hwv2
       have hcap:gk≤wc2:=hnc
       have hcm2:wc2≤9223372036854775807:=by unfold maxLen at hcm;omega
       have HXM:=hid hXM
       have HPW:=hid (show(Xk.M.getD j gp0).1=bk.wait.getD j gz from getD_fst _ _ HXK.out.wl j)
       have HGp:=hid (show GrG wr S (Xk.M.getD j gp0) from HXK.out.good _ (List.mem_append.2 (.inr (getD_memP (by rw[hXM];exact hjk)))))
       generalize Xk.M.getD j gp0=p2 at *
       obtain⟨⟨⟨t,r⟩,n,u,⟨ut,ur⟩,ops⟩,⟨dA,dc,oA,oc⟩⟩:=p2
       rw[Nat.zero_add] at hrange
       have HRG:=hid (show wr.rangeAt rb (j*7) [.int .i64 t,.int .i64 r,.int .i64 n,.slice dA u.length dc,.int .i64 ut,.int .i64 ur,.slice oA ops.length oc] from hrange)
       have i1:(0:Int)≤(j:Int):=by omega
       have i2:(j:Int)<(gk:Int):=by omega
       have i3:¬(j:Int)<0:=by omega
       have pk:wr.cell? ⟨P,1,none⟩=some (.slice (some ⟨rb,0,none⟩) gk wc2):=by rw[HXK.out.cell,hwv2];rfl
       have HOBJ:=hid HXK.out.obj
       clear hbn HNX hrow hblk hnc hcm hwv2 hrange hXM
       go_upto_region 17 with(first
        |(go_at_call 69;refine HNX2.out.mono ?_;rintro e w7 ⟨rfl,hB7⟩;have HRG7:=hid (show w7.rangeAt rb (j*7) [.int .i64 t,.int .i64 r,.int .i64 n,.slice dA u.length dc,.int .i64 ut,.int .i64 ur,.slice oA ops.length oc] from fun i y hy=>(World.cell?_of_block (w:=wr) (w':=w7) (a:=⟨rb,j*7+i,none⟩) (hB7.block rb hrb)).trans (HRG.out i y hy));have pk7:=(World.cell?_of_block (w:=wr) (w':=w7) (a:=⟨P,1,none⟩) (hB7.block P (lt_of_block HOBJ.out))).trans pk;have HB7:=hid hB7;clear hB7)
        |(refine wpList_load_mid rfl _ _ rfl rb (j*7) rfl [.int .i64 t,.int .i64 r,.int .i64 n,.slice dA u.length dc,.int .i64 ut,.int .i64 ur,.slice oA ops.length oc] _ HRG7.out Tryz.underlying45 rfl (by kernel_rfl) ?_)
        |(refine store_last rfl _ _ _ rfl _ _ _ _ rfl ?_ rfl ?_ ?_ ?_ ?_;(focus(simp;done));kernel_rfl;rfl;rfl))
       have hba2:Below w7.heap.size w7 (w7.alloc (.cells ([.int .i64 t,.int .i64 r,.int .i64 n,.slice dA u.length dc,.int .i64 ut,.int .i64 ur,.slice oA ops.length oc]:List Value).toArray 45)):=(Below.refl _ _).alloc (Nat.le_refl _) _
       have HCW:=hid (heap_alloc_new w7 (.cells ([.int .i64 t,.int .i64 r,.int .i64 n,.slice dA u.length dc,.int .i64 ut,.int .i64 ur,.slice oA ops.length oc]:List Value).toArray 45))
       generalize hW:w7.alloc (.cells ([.int .i64 t,.int .i64 r,.int .i64 n,.slice dA u.length dc,.int .i64 ut,.int .i64 ur,.slice oA ops.length oc]:List Value).toArray 45)=W at *
       clear hW
       have HBW:=hid (HB7.out.trans (hba2.mono HB7.out.size))
       have HXW2:=hid (HXK.out.below HBW.out)
       have HTW2:=hid (HTK.out.trans (RbTo.of_below HBW.out))
       have HGW:=hid (HGp.out.agr (Agr.below HBW.out))
       have pkW:W.cell? ⟨P,1,none⟩=some (.slice (some ⟨rb,0,none⟩) gk wc2):=by rw[HXW2.out.cell,HWV2.out];rfl
       have hw7W:w7.heap.size<W.heap.size:=lt_of_block HCW.out
       obtain⟨news1,hn1⟩:∃l:List Value,l=(Xk.M.take j).flatMap grC_:=⟨_,rfl⟩
       obtain⟨news2,hn2⟩:∃l:List Value,l=(Xk.M.drop (j+1)).flatMap grC_:=⟨_,rfl⟩
       have HN1L:=hid (show news1.length=j*7 by rw[hn1,lengrC_,List.length_take,HXM.out];congr 1;omega)
       have HN2L:=hid (show news2.length=q*7 by rw[hn2,lengrC_,List.length_drop,HXM.out];congr 1;omega)
       have HN1O:=hid (show ∀y∈news1,y.oneCell'=true from fun y hy=>by rw[hn1] at hy;obtain⟨z,-,hz⟩:=List.mem_flatMap.1 hy;exact ocgrC_ z y hz)
       have HN2O:=hid (show ∀y∈news2,y.oneCell'=true from fun y hy=>by rw[hn2] at hy;obtain⟨z,-,hz⟩:=List.mem_flatMap.1 hy;exact ocgrC_ z y hz)
       have hcw:∀i y,(Xk.M.flatMap grC_)[i]? =some y→W.cell? ⟨rb,i,none⟩=some y:=fun i y hy=>by
        have h1:=HCEL.out _ rfl i y hy
        rw[Addr.add_mid,Nat.zero_add] at h1
        exact(World.cell?_of_block (w:=wr) (w':=W) (a:=⟨rb,i,none⟩) (HBW.out.block rb hrb)).trans h1
       have HN1C:=hid (show ∀i y,news1[i]? =some y→W.cell? ((⟨rb,0,none⟩:Addr).add i)=some y from fun i y hy=>by
        rw[Addr.add_mid,Nat.zero_add]
        refine hcw i y ?_
        rw[hn1,flat_take,List.getElem?_take] at hy
        split at hy
        ·exact hy
        ·cases hy)
       have HN2C:=hid (show ∀i y,news2[i]? =some y→W.cell? ⟨rb,(j+1)*7+i,none⟩=some y from fun i y hy=>by
        refine hcw _ y ?_
        rw[hn2,flat_drop,List.getElem?_drop] at hy
        exact hy)
       have HNE:=hid (show news1++news2=(Xk.M.eraseIdx j).flatMap grC_ by rw[hn1,hn2,flat_take,flat_drop,flat_erase])
       have hlq:j+q≤1000:=by omega
       have hrbW:rb<W.heap.size:=Nat.lt_of_lt_of_le hrb HBW.out.size
       clear hcw hn1 hn2
       have j2:(j:Int)≤(gk:Int):=by omega
       have j3:(j:Int)≤(wc2:Int):=by omega
       have j4:(j:Int)+1≤(gk:Int):=by omega
       have j5:(0:Int)≤(j:Int)+1:=by omega
       have j6:(gk:Int)≤(wc2:Int):=by omega
       have j7:(j:Int)+1≤(wc2:Int):=by omega
       have j8:((j:Int)+1).toNat=j+1:=by omega
       have j9:IntKind.i64.wrap ((j:Int)+1)=(j:Int)+1:=by rw[IntKind.wrap_i64];omega
       have HQ2:=hid (show gk-(j+1)=q by omega)
       go_upto_region 19 with(at_builtin;refine wpList_append_own _ rfl _ _ 25 rfl W.heap.size 45 i0 (.agg #[.int .i64 0,.int .i64 0,.int .i64 0,.slice none 0 0,.int .i64 0,.int .i64 0,.slice none 0 0]) 7 88 Tryz.underlying25 hi hz0 hz1 hz2 rfl (by decide) (.slice none 0 0) 0 [] rfl (World.ownsRow_nil _ _ _ _) ⟨rb,0,none⟩ j wc2 news1 rfl HN1L.out HN1C.out HN1O.out (by unfold maxLen;omega) (by omega) (Nat.le_refl _) ?_;intro v1 wa hown1 hgrow1 hnil1)
       obtain⟨A1,c1,rfl⟩:=row_slice hown1
       rw[Nat.zero_add] at hown1 ⊢
       have hBa:Below W.heap.size W wa:=(Below.refl _ W).grown hgrow1 (Nat.le_refl _) (fun k hk=>by cases hk)
       have pka:=(World.cell?_of_block (w:=W) (w':=wa) (a:=⟨P,1,none⟩) (hBa.block P (lt_of_block HXW2.out.obj))).trans pkW
       have HBa:=hid hBa
       have HOW1:=hid hown1
       have HPKW:=hid pkW
       clear hBa hown1 hgrow1 hnil1 pkW
       have hsa:=HBa.out.size
       have HSRC:=hid (show ∀i y,news2[i]? =some y→wa.cell? ((⟨rb,(j+1)*7,none⟩:Addr).add i)=some y from fun i y hy=>by
        rw[Addr.add_mid]
        exact(World.cell?_of_block (w:=W) (w':=wa) (a:=⟨rb,(j+1)*7+i,none⟩) (HBa.out.block rb hrbW)).trans (HN2C.out i y hy))
       have HPW7:=hid (show P<wr.heap.size from lt_of_block HOBJ.out)
       have hPW:P<W.heap.size:=lt_of_block HXW2.out.obj
       obtain⟨od,hod⟩:∃z,z=oldB bk.v ⟨⟨t,r⟩,n,u,⟨ut,ur⟩,ops⟩:=⟨_,rfl⟩
       obtain⟨z,hz⟩:∃z,z=atV bk.v r:=⟨_,rfl⟩
       have HOD:=hid (show oldB bk.v (bk.wait.getD j gz)=od by rw[hod,←HPW.out])
       have HRK2:=hid (show RbOk ⟨bk.done,bk.wait.eraseIdx j,bk.v⟩ from⟨HRK.out.ok.drop j,fun y hy=>HRK.out.txt y ((List.mem_append.1 hy).elim (fun h=>List.mem_append.2 (.inl h)) (fun h=>List.mem_append.2 (.inr (List.mem_of_mem_eraseIdx h)))),by have:=HRK.out.len;have:=List.length_eraseIdx_le bk.wait j;show bk.done.length+(bk.wait.eraseIdx j).length≤_;omega⟩)
       have HAT:=hid (show ∀W A' c',VecS W (fun _=>True) A' bk.v→bk.v.length≤16→Calls Tryz.prog 55 #[.slice A' bk.v.length c',.int .i64 r] W fun e w'=>e= .returned (.int .i64 z)∧w'=W from fun W A' c' hv hl=>by
        rw[hz];exact refat_any A' c' bk.v r W (by omega) hv.vec)
       have HEM:=hid (show(Xk.M.eraseIdx j).map Prod.fst=bk.wait.eraseIdx j by rw[←HXW2.out.wl];exact map_erase _ _ _)
       have HEL:=hid (show(Xk.M.eraseIdx j).length=j+q by rw[List.length_eraseIdx,if_pos (by rw[HXM.out];exact hjk),HXM.out];omega)
       have hzo:decide (n≤z)=od:=by rw[hod,hz];rfl
       clear hod hz
       by_cases hcc:wc2=j+1
       ·have hgj:gk=j+1:=by omega
        have HQ0:=hid (show q=0 by omega)
        have HN0:=hid (show news2=[] from List.length_eq_zero_iff.1 (by rw[HN2L.out,HQ0.out]))
        go_upto_region 20 with(at_builtin;refine wpList_append_own _ rfl _ _ 25 rfl W.heap.size 45 i0 (.agg #[.int .i64 0,.int .i64 0,.int .i64 0,.slice none 0 0,.int .i64 0,.int .i64 0,.slice none 0 0]) 7 88 Tryz.underlying25 hi hz0 hz1 hz2 rfl (by decide) (.slice A1 j c1) j news1 rfl HOW1.out ⟨rb,0,none⟩ 0 _ news2 rfl (by rw[HN0.out];rfl) (fun i y hy=>by rw[HN0.out] at hy;simp at hy) HN2O.out (by unfold maxLen;omega) (by omega) hsa ?_;intro v2 wb hown2 hgrow2 hnil2;obtain⟨A2,c2,rfl⟩:=row_slice hown2;rw[show j+0=j from rfl] at hown2 ⊢;have hBb:Below W.heap.size W wb:=HBa.out.grown hgrow2 hsa (fun k hk=>(HOW1.out.lt k hk).1);have pkb:=(World.cell?_of_block (w:=W) (w':=wb) (a:=⟨P,1,none⟩) (hBb.block P hPW)).trans HPKW.out;have fkb:wb.frozen? ⟨P,1,none⟩=false:=frozen_of_row _ _ _ _ _ ((hBb.block P hPW).trans HXW2.out.obj);have HBb:=hid hBb;have HOW2:=hid hown2;clear hBb hown2 hgrow2 hnil2)
        have hqe:j=j+q:=by rw[HQ0.out];rfl
        have HOW3:=hid (show wb.ownsRow W.heap.size 45 7 (.slice A2 (j) c2) (Xk.M.eraseIdx j).length ((Xk.M.eraseIdx j).flatMap grC_) by have h9:=HOW2.out;rw[HNE.out] at h9;rw[HEL.out];rw[HQ0.out];exact h9)
        have HPUT2:=hid (HXW2.out.wset (wv':=(.slice A2 (j) c2)) (M':=Xk.M.eraseIdx j) HBb.out (gby_below (Below.refl _ _)) (own_baseR HOW3.out (by have:=HXW2.out.hP;omega)) (.inr fun k hk=>(HOW3.out.lt k hk).1) (fun p hp=>HXW2.out.good p (List.mem_append.2 (.inr (List.eraseIdx_subset hp)))))
        have HCb:=hid ((Below.heap_setCell wb ⟨P,1,none⟩ (.slice A2 (j) c2) w7.heap.size (by show w7.heap.size≠P;have:=HPW7.out;have:=HB7.out.size;omega)).trans ((HBb.out.block w7.heap.size hw7W).trans HCW.out))
        obtain⟨hX8,hT8⟩:=HPUT2.out
        rw[HEM.out] at hX8
        generalize hV8:wb.setCell ⟨P,1,none⟩ (.slice A2 (j) c2)=V8 at *
        clear hV8 pkb fkb HPUT2 HOW2 HOW3 hqe HBb
        generalize hXe8:({ Xk with wv:=(.slice A2 (j) c2),M:=Xk.M.eraseIdx j }:RbX)=X8 at *
        clear hXe8
        have HX8:=hid (show RbIn B P S (⟨bk.done,bk.wait.eraseIdx j,bk.v⟩:Bx).done (⟨bk.done,bk.wait.eraseIdx j,bk.v⟩:Bx).wait X8 V8 from hX8)
        have HG8:=hid (HGW.out.agr (hT8.gr.agr (fun i _ hs=>(HXW2.out.sep i hs).2)))
        have HT8:=hid (HTW2.out.trans hT8)
        have hw7o:∀k,OwnR P X8 k→k≠w7.heap.size:=fun k hk e=>by
         subst e
         rcases hT8.own _ hk with h1|h1
         ·have:=(HXK.out.own_lt h1).2;have:=HB7.out.size;omega
         ·omega
        have HO8:=hid hw7o
        have HVC:=hid (fun W (hB:Below V8.heap.size V8 W)=>(show Calls Tryz.prog 35 #[.pointer (some ⟨P,0,none⟩)] W fun e w'=>∃A' c',e= .returned (.slice A' bk.v.length c')∧VecS w' (fun _=>True) A' bk.v∧bk.v.length≤16∧Below W.heap.size W w' from rbvec_any (b:=⟨bk.done,bk.wait.eraseIdx j,bk.v⟩) (HX8.out.below hB) HRK2.out))
        have hw8:w7.heap.size<V8.heap.size:=lt_of_block HCb.out
        clear hX8 hT8 hw7o
        cases od
        case true=>
         have hzg:decide (z<n)=false:=by
          simp only[decide_eq_true_eq,decide_eq_false_iff_not] at hzo ⊢;omega
         refine wp_region_held (S:=fun w'=>w'.heap[w7.heap.size]? =some (.cells ([.int .i64 t,.int .i64 r,.int .i64 n,.slice dA u.length dc,.int .i64 ut,.int .i64 ur,.slice oA ops.length oc]:List Value).toArray 45 (0,0))) (by kernel_rfl) ?_
         try(change wpAnyH _ _ _ _ _ _ _ _ (World.drew _))
         refine tk 0 (.pointer (some ⟨w7.heap.size,2,none⟩)) ((show V8.drew.heap[w7.heap.size]? =_ from HCb.out)) ?_
         go_simp
         refine wpAnyH_take (i:=1) (v:= .int .i64 n) rfl (by kernel_rfl) (by kernel_rfl) (by kernel_rfl) (fun _ _ _ h=>h) (Or.inl ⟨by rfl,fun W' hW'=>by(have c_:W'.cell? ⟨w7.heap.size,2,none⟩=some (.int .i64 n):=(by rw[crw hW'];rfl);go_simp)⟩) ((show V8.drew.heap[w7.heap.size]? =_ from HCb.out)) ?_
         go_simp
         refine tk 2 (.pointer (some ⟨P,0,none⟩)) ((show V8.drew.heap[w7.heap.size]? =_ from HCb.out)) ?_
         go_simp
         refine tk 4 (.pointer (some ⟨w7.heap.size,0,none⟩)) ((show V8.drew.heap[w7.heap.size]? =_ from HCb.out)) ?_
         go_simp
         refine tk 5 (.pointer (some ⟨w7.heap.size,1,none⟩)) ((show V8.drew.heap[w7.heap.size]? =_ from HCb.out)) ?_
         go_simp
         refine wpAnyH_take (i:=6) (v:= .int .i64 r) rfl (by kernel_rfl) (by kernel_rfl) (by kernel_rfl) (fun _ _ _ h=>h) (Or.inl ⟨by rfl,fun W' hW'=>by(have c_:W'.cell? ⟨w7.heap.size,1,none⟩=some (.int .i64 r):=(by rw[crw hW'];rfl);go_simp)⟩) ((show V8.drew.heap[w7.heap.size]? =_ from HCb.out)) ?_
         go_simp
         refine wpAnyH_ready (rs:=[3]) (by kernel_rfl) (by simp) ?_
         refine AllReadyH.cons rfl (fun K hK=> ?_) AllReadyH.nil
         go_simp
         have hbd:Below V8.heap.size V8 V8.drew:=⟨rfl,rfl,rfl,Nat.le_refl _,fun _ _=>rfl⟩
         refine(HVC.out V8.drew hbd).mono ?_
         rintro e w9 ⟨A9,c9,rfl,hv9,hl9,hB9⟩
         have HB9:=hid (hbd.trans hB9)
         have HC9:=hid ((HB9.out.block w7.heap.size hw8).trans HCb.out)
         have HV9:=hid hv9
         clear hB9 hv9 hbd
         go_simp
         refine hK.out _ _ (HC9.out) (fun _=> ?_)
         clear hK K
         refine wpAnyH_ready (rs:=[7]) (by kernel_rfl) (by simp) ?_
         refine AllReadyH.cons rfl (fun K hK=> ?_) AllReadyH.nil
         go_simp
         refine(HAT.out w9 A9 c9 HV9.out hl9).mono ?_
         rintro e w2' ⟨rfl,hw2'⟩
         replace hw2':=hw2'.symm
         subst hw2'
         go_simp
         refine hK.out _ _ (HC9.out) (fun _=> ?_)
         clear hK K
         refine tk 8 (.bool false) (HC9.out) ?_
         go_simp
         refine wpAnyH_done (by kernel_rfl) ?_ _
         go_simp
         have hdr:=drainF_old (f:=j+q) HBN.out HOD.out
         have hel2:(bk.wait.eraseIdx j).length=j+q:=by rw[←HEM.out,List.length_map,HEL.out]
         have HEL2:=hid hel2
         have HHK:=hid (show D.1=(drainF (j+q) ⟨bk.done,bk.wait.eraseIdx j,bk.v⟩).1∧D.2+1=(drainF (j+q) ⟨bk.done,bk.wait.eraseIdx j,bk.v⟩).2+nk by have:=HEK.out;rw[HMW.out,←hq,hdr] at this;exact this)
         clear hel2 hdr
         go_wp2
         go_roundg (j+q)
         case measure=>omega
         case rel=>exact⟨⟨bk.done,bk.wait.eraseIdx j,bk.v⟩,nk,X8,rfl,HEL2.out,by omega,hid (HX8.out.below HB9.out),hid (HT8.out.trans (RbTo.of_below HB9.out)),HRK2,hid (by show D.1=(drainF (bk.wait.eraseIdx j).length _).1∧_=(drainF (bk.wait.eraseIdx j).length _).2+nk;rw[HEL2.out];exact HHK.out)⟩
        case false=>
         have hzg:decide (z<n)=true:=by
          simp only[decide_eq_true_eq,decide_eq_false_iff_not] at hzo ⊢;omega
         refine wp_region_held (S:=fun w'=>w'.heap[w7.heap.size]? =some (.cells ([.int .i64 t,.int .i64 r,.int .i64 n,.slice dA u.length dc,.int .i64 ut,.int .i64 ur,.slice oA ops.length oc]:List Value).toArray 45 (0,0))) (by kernel_rfl) ?_
         try(change wpAnyH _ _ _ _ _ _ _ _ (World.drew _))
         refine tk 0 (.pointer (some ⟨w7.heap.size,2,none⟩)) ((show V8.drew.heap[w7.heap.size]? =_ from HCb.out)) ?_
         go_simp
         refine wpAnyH_take (i:=1) (v:= .int .i64 n) rfl (by kernel_rfl) (by kernel_rfl) (by kernel_rfl) (fun _ _ _ h=>h) (Or.inl ⟨by rfl,fun W' hW'=>by(have c_:W'.cell? ⟨w7.heap.size,2,none⟩=some (.int .i64 n):=(by rw[crw hW'];rfl);go_simp)⟩) ((show V8.drew.heap[w7.heap.size]? =_ from HCb.out)) ?_
         go_simp
         refine tk 2 (.pointer (some ⟨P,0,none⟩)) ((show V8.drew.heap[w7.heap.size]? =_ from HCb.out)) ?_
         go_simp
         refine tk 4 (.pointer (some ⟨w7.heap.size,0,none⟩)) ((show V8.drew.heap[w7.heap.size]? =_ from HCb.out)) ?_
         go_simp
         refine tk 5 (.pointer (some ⟨w7.heap.size,1,none⟩)) ((show V8.drew.heap[w7.heap.size]? =_ from HCb.out)) ?_
         go_simp
         refine wpAnyH_take (i:=6) (v:= .int .i64 r) rfl (by kernel_rfl) (by kernel_rfl) (by kernel_rfl) (fun _ _ _ h=>h) (Or.inl ⟨by rfl,fun W' hW'=>by(have c_:W'.cell? ⟨w7.heap.size,1,none⟩=some (.int .i64 r):=(by rw[crw hW'];rfl);go_simp)⟩) ((show V8.drew.heap[w7.heap.size]? =_ from HCb.out)) ?_
         go_simp
         refine wpAnyH_ready (rs:=[3]) (by kernel_rfl) (by simp) ?_
         refine AllReadyH.cons rfl (fun K hK=> ?_) AllReadyH.nil
         go_simp
         have hbd:Below V8.heap.size V8 V8.drew:=⟨rfl,rfl,rfl,Nat.le_refl _,fun _ _=>rfl⟩
         refine(HVC.out V8.drew hbd).mono ?_
         rintro e w9 ⟨A9,c9,rfl,hv9,hl9,hB9⟩
         have HB9:=hid (hbd.trans hB9)
         have HC9:=hid ((HB9.out.block w7.heap.size hw8).trans HCb.out)
         have HV9:=hid hv9
         clear hB9 hv9 hbd
         go_simp
         refine hK.out _ _ (HC9.out) (fun _=> ?_)
         clear hK K
         refine wpAnyH_ready (rs:=[7]) (by kernel_rfl) (by simp) ?_
         refine AllReadyH.cons rfl (fun K hK=> ?_) AllReadyH.nil
         go_simp
         refine(HAT.out w9 A9 c9 HV9.out hl9).mono ?_
         rintro e w2' ⟨rfl,hw2'⟩
         replace hw2':=hw2'.symm
         subst hw2'
         go_simp
         refine hK.out _ _ (HC9.out) (fun _=> ?_)
         clear hK K
         refine tk 8 (.bool true) (HC9.out) ?_
         go_simp
         refine wpAnyH_done (by kernel_rfl) ?_ _
         go_simp
         go_upto_region 21 with fail
         have HX9:=hid (HX8.out.below HB9.out)
         have HG9:=hid (HG8.out.agr (Agr.below HB9.out))
         have hw9:w7.heap.size<w9.heap.size:=lt_of_block HC9.out
         obtain⟨eA8,ec8,hdv8⟩:=row_slice HX9.out.done
         have HDV8:=hid hdv8
         have HML8:=hid (show X8.L.length≤100000 by rw[HX9.out.dlen];have:=HRK2.out.len;omega)
         have hPn9:w7.heap.size≠P:=by have:=HPW7.out;have:=HB7.out.size;omega
         clear hdv8
         have hP3:P<w9.heap.size:=lt_of_block HX9.out.obj
         have p3:w9.cell? ⟨P,0,none⟩=some (.slice eA8 X8.L.length ec8):=by rw[HX9.out.cell,HDV8.out];rfl
         refine wp_region_held (S:=fun w'=>w'.heap[w7.heap.size]? =some (.cells ([.int .i64 t,.int .i64 r,.int .i64 n,.slice dA u.length dc,.int .i64 ut,.int .i64 ur,.slice oA ops.length oc]:List Value).toArray 45 (0,0))) (by kernel_rfl) ?_
         try(change wpAnyH _ _ _ _ _ _ _ _ (World.drew _))
         refine tk 0 (.pointer (some ⟨P,0,none⟩)) ((show w9.drew.heap[w7.heap.size]? =_ from HC9.out)) ?_
         go_simp
         refine tk 1 (.pointer (some ⟨P,0,none⟩)) ((show w9.drew.heap[w7.heap.size]? =_ from HC9.out)) ?_
         go_simp
         refine tk 2 (.pointer (some ⟨P,0,none⟩)) ((show w9.drew.heap[w7.heap.size]? =_ from HC9.out)) ?_
         go_simp
         refine tk 3 (.pointer (some ⟨P,0,none⟩)) ((show w9.drew.heap[w7.heap.size]? =_ from HC9.out)) ?_
         go_simp
         refine wpAnyH_take (i:=5) (v:= .agg ([.int .i64 t,.int .i64 r,.int .i64 n,.slice dA u.length dc,.int .i64 ut,.int .i64 ur,.slice oA ops.length oc]:List Value).toArray) rfl (by kernel_rfl) (by kernel_rfl) (by kernel_rfl) (fun _ _ _ h=>h) (yieldsIf_load_mid (by rfl) _ _ rfl w7.heap.size 0 rfl [.int .i64 t,.int .i64 r,.int .i64 n,.slice dA u.length dc,.int .i64 ut,.int .i64 ur,.slice oA ops.length oc] _ (fun W' hW'=>range_of_block hW') Tryz.underlying45 rfl (by kernel_rfl)) ((show w9.drew.heap[w7.heap.size]? =_ from HC9.out)) ?_
         go_simp
         have HBA3:=hid (show Below w9.heap.size w9 (w9.alloc (.cells ([.int .i64 t,.int .i64 r,.int .i64 n,.slice dA u.length dc,.int .i64 ut,.int .i64 ur,.slice oA ops.length oc]:List Value).toArray 45)).drew from⟨rfl,rfl,rfl,by simp,fun k hk=>Below.heap_alloc _ _ _ hk⟩)
         have HCA:=hid (show(w9.alloc (.cells ([.int .i64 t,.int .i64 r,.int .i64 n,.slice dA u.length dc,.int .i64 ut,.int .i64 ur,.slice oA ops.length oc]:List Value).toArray 45)).drew.heap[w7.heap.size]? =_ from(Below.heap_alloc w9 (.cells ([.int .i64 t,.int .i64 r,.int .i64 n,.slice dA u.length dc,.int .i64 ut,.int .i64 ur,.slice oA ops.length oc]:List Value).toArray 45) _ hw9).trans HC9.out)
         have HDN:=hid (HX9.out.done.alloc (.cells ([.int .i64 t,.int .i64 r,.int .i64 n,.slice dA u.length dc,.int .i64 ut,.int .i64 ur,.slice oA ops.length oc]:List Value).toArray 45))
         have HNC:=hid (fun (j:Nat) (y:Value) (h:([.int .i64 t,.int .i64 r,.int .i64 n,.slice dA u.length dc,.int .i64 ut,.int .i64 ur,.slice oA ops.length oc]:List Value)[j]? =some y)=>cellsN w9 [.int .i64 t,.int .i64 r,.int .i64 n,.slice dA u.length dc,.int .i64 ut,.int .i64 ur,.slice oA ops.length oc] 45 j y h)
         have hsA:(w9.alloc (.cells ([.int .i64 t,.int .i64 r,.int .i64 n,.slice dA u.length dc,.int .i64 ut,.int .i64 ur,.slice oA ops.length oc]:List Value).toArray 45)).drew.heap.size=w9.heap.size+1:=by show(w9.alloc _).heap.size=_;simp
         have pA3:(w9.alloc (.cells ([.int .i64 t,.int .i64 r,.int .i64 n,.slice dA u.length dc,.int .i64 ut,.int .i64 ur,.slice oA ops.length oc]:List Value).toArray 45)).drew.cell? ⟨P,0,none⟩=some (.slice eA8 X8.L.length ec8):=by show(w9.alloc _).cell? _=_;rw[crw ((Below.heap_alloc w9 (.cells ([.int .i64 t,.int .i64 r,.int .i64 n,.slice dA u.length dc,.int .i64 ut,.int .i64 ur,.slice oA ops.length oc]:List Value).toArray 45) P hP3).trans HX9.out.obj),HDV8.out];rfl
         rw[HDV8.out] at HDN
         refine wpAnyH_ready (rs:=[4,6]) (by kernel_rfl) (by simp) ?_
         refine AllReadyH.cons rfl (fun K hK=> ?_) (AllReadyH.cons rfl (fun K hK=> ?_) AllReadyH.nil)
         focus
          go_simp
          refine hK.out _ _ ((show w9.drew.heap[w7.heap.size]? =_ from HC9.out)) (fun _=> ?_)
          clear hK K
          refine wpAnyH_ready (rs:=[6]) (by kernel_rfl) (by simp) ?_
          refine AllReadyH.cons rfl (fun K hK=> ?_) AllReadyH.nil
          go_simp
          refine hK.out _ _ (HCA.out) (fun _=> ?_)
          clear hK K
         rotate_left
         focus
          go_simp
          refine hK.out _ _ (HCA.out) (fun _=> ?_)
          clear hK K
          refine wpAnyH_ready (rs:=[4]) (by kernel_rfl) (by simp) ?_
          refine AllReadyH.cons rfl (fun K hK=> ?_) AllReadyH.nil
          go_simp
          refine hK.out _ _ (HCA.out) (fun _=> ?_)
          clear hK K
         all_goals
          refine wpAnyH_ready (rs:=[7]) (by kernel_rfl) (by simp) ?_
          refine AllReadyH.cons rfl (fun K hK=> ?_) AllReadyH.nil
          refine step_append_lies _ (by rfl) _ _ 25 (by rfl) B 45 i0 (.agg #[.int .i64 0,.int .i64 0,.int .i64 0,.slice none 0 0,.int .i64 0,.int .i64 0,.slice none 0 0]) 7 88 Tryz.underlying25 hi hz0 hz1 hz2 rfl (by decide) (.slice eA8 X8.L.length ec8) X8.L.length _ (by rfl) (by exact HDN.out) ⟨w9.heap.size,0,none⟩ 1 1 [.int .i64 t,.int .i64 r,.int .i64 n,.slice dA u.length dc,.int .i64 ut,.int .i64 ur,.slice oA ops.length oc] (by rfl) rfl (by exact HNC.out) (by exact ocgrC_ ((⟨⟨t,r⟩,n,u,⟨ut,ur⟩,ops⟩:Grp),(⟨dA,dc,oA,oc⟩:GrX))) (by decide) (by have:=HML8.out;unfold maxLen;omega) (by have:=HML8.out;omega) (by have:=HX9.out.hP;rw[hsA];omega) (w9.heap.size+1) hsA ?_
          intro gq cap w5 hown1 hgrow hat hlt3
          rw[←HDV8.out] at hgrow hat
          have hgne:some (w7.heap.size)≠X8.dv.ownBlock:=fun e=>HO8.out _ (.inr (.inl e.symm)) rfl
          have HC5:=hid ((hgrow.block (w7.heap.size) (by rw[hsA];omega) hgne).trans HCA.out)
          have hPd:some P≠X8.dv.ownBlock:=fun e=>HX9.out.dP e.symm
          have hob:=(hgrow.block P (by rw[hsA];omega) hPd).trans ((HBA3.out.block P hP3).trans HX9.out.obj)
          have d5:w5.cell? ⟨P,0,none⟩=some (.slice eA8 X8.L.length ec8):=by rw[crw hob,HDV8.out];rfl
          have f5:w5.frozen? ⟨P,0,none⟩=false:=frozen_of_row _ _ _ _ _ hob
          have hown2:w5.ownsRow B 45 7 (.slice (some ⟨gq,0,none⟩) (X8.L.length+1) cap) (X8.L++[((⟨⟨t,r⟩,n,u,⟨ut,ur⟩,ops⟩:Grp),(⟨dA,dc,oA,oc⟩:GrX))]).length ((X8.L++[((⟨⟨t,r⟩,n,u,⟨ut,ur⟩,ops⟩:Grp),(⟨dA,dc,oA,oc⟩:GrX))]).flatMap grC_):=by rw[List.length_append,List.flatMap_append,List.flatMap_singleton];exact hown1
          have HPUT:=hid (HX9.out.dset (dv':= .slice (some ⟨gq,0,none⟩) (X8.L.length+1) cap) (L':=X8.L++[((⟨⟨t,r⟩,n,u,⟨ut,ur⟩,ops⟩:Grp),(⟨dA,dc,oA,oc⟩:GrX))]) HBA3.out hgrow hown2 (hat.elim (fun e=> .inl (by rw[e];rfl)) (fun e=> .inr (fun k hk=>by have hk:some gq=some k:=hk;injection hk with hk;omega))) (fun p hp=>by rcases List.mem_append.1 hp with hp|hp;exact HX9.out.good p (List.mem_append.2 (.inl hp));rw[List.mem_singleton] at hp;rw[hp];exact HG9.out))
          clear hown1 hown2 hgrow hat hgne hPd hlt3 hob
          refine hK.out _ _ (HC5.out) (fun _=> ?_)
          clear hK K
          refine tk 8 (.pointer (some ⟨P,0,none⟩)) (HC5.out) ?_
          go_simp
          refine tk 9 (.pointer (some ⟨P,0,none⟩)) (HC5.out) ?_
          go_simp
          refine wpAnyH_ready (rs:=[10]) (by kernel_rfl) (by simp) ?_
          refine AllReadyH.cons rfl (fun K hK=> ?_) AllReadyH.nil
          go_simp
          have HC6:=hid ((Below.heap_setCell w5 ⟨P,0,none⟩ (.slice (some ⟨gq,0,none⟩) (X8.L.length+1) cap) (w7.heap.size) (by show w7.heap.size≠P;omega)).trans HC5.out)
          refine hK.out _ _ (HC6.out) (fun _=> ?_)
          clear hK K
          refine wpAnyH_done (by kernel_rfl) ?_ _
          go_simp
          obtain⟨hX6,hT6⟩:=HPUT.out
          have hdr:=drainF_put (f:=j+q) HBN.out HOD.out
          have hel2:(bk.wait.eraseIdx j).length=j+q:=by rw[←HEM.out,List.length_map,HEL.out]
          have HEL2:=hid hel2
          have HHK:=hid (show D.1=(drainF (j+q) (Bx.put ⟨bk.done,bk.wait.eraseIdx j,bk.v⟩ (bk.wait.getD j gz))).1∧D.2+1=(drainF (j+q) (Bx.put ⟨bk.done,bk.wait.eraseIdx j,bk.v⟩ (bk.wait.getD j gz))).2+(nk+1) by have h9:=HEK.out;rw[HMW.out,←hq,hdr] at h9;refine⟨h9.1,?_⟩;have:=h9.2;omega)
          have HX10:=hid (show RbIn B P S (Bx.put ⟨bk.done,bk.wait.eraseIdx j,bk.v⟩ (bk.wait.getD j gz)).done (Bx.put ⟨bk.done,bk.wait.eraseIdx j,bk.v⟩ (bk.wait.getD j gz)).wait _ _ by have h9:=hX6;rw[List.map_append,HX9.out.dl] at h9;rw[←HPW.out];exact h9)
          have HT10:=hid ((HT8.out.trans (RbTo.of_below HB9.out)).trans hT6)
          have HRK3:=hid (show RbOk (Bx.put ⟨bk.done,bk.wait.eraseIdx j,bk.v⟩ (bk.wait.getD j gz)) from⟨HRK.out.ok.step HBN.out HOD.out,fun y hy=>by
           simp only[Bx.put,List.mem_append,List.mem_singleton] at hy
           rcases hy with(hy|rfl)|hy
           ·exact HRK.out.txt y (List.mem_append.2 (.inl hy))
           ·exact HRK.out.txt _ (List.mem_append.2 (.inr (getD_mem (by rw[HMW.out];exact hjk))))
           ·exact HRK.out.txt y (List.mem_append.2 (.inr (List.mem_of_mem_eraseIdx hy))),by have h9:=HRK.out.len;rw[HMW.out] at h9;show(bk.done++[_]).length+(bk.wait.eraseIdx j).length≤_;rw[List.length_append,List.length_singleton,hel2];omega⟩)
          clear hel2 hdr hX6 hT6 HPUT
          go_wp2
          go_roundg (j+q)
          case measure=>omega
          case rel=>exact⟨Bx.put ⟨bk.done,bk.wait.eraseIdx j,bk.v⟩ (bk.wait.getD j gz),nk+1,_,by go_num,HEL2.out,by omega,HX10,HT10,HRK3,hid (by show D.1=(drainF (bk.wait.eraseIdx j).length _).1∧_=(drainF (bk.wait.eraseIdx j).length _).2+(nk+1);rw[HEL2.out];exact HHK.out)⟩
       ·have hcc2:¬wc2-(j+1)=0:=by omega
        have hcc3:¬wc2≤j+1:=by omega
        go_upto_region 20 with(at_builtin;refine wpList_append_own _ rfl _ _ 25 rfl W.heap.size 45 i0 (.agg #[.int .i64 0,.int .i64 0,.int .i64 0,.slice none 0 0,.int .i64 0,.int .i64 0,.slice none 0 0]) 7 88 Tryz.underlying25 hi hz0 hz1 hz2 rfl (by decide) (.slice A1 j c1) j news1 rfl HOW1.out ⟨rb,(j+1)*7,none⟩ (gk-(j+1)) _ news2 rfl (by rw[HN2L.out,HQ2.out]) (by exact HSRC.out) HN2O.out (by unfold maxLen;omega) (by omega) hsa ?_;intro v2 wb hown2 hgrow2 hnil2;obtain⟨A2,c2,rfl⟩:=row_slice hown2;have hBb:Below W.heap.size W wb:=HBa.out.grown hgrow2 hsa (fun k hk=>(HOW1.out.lt k hk).1);have pkb:=(World.cell?_of_block (w:=W) (w':=wb) (a:=⟨P,1,none⟩) (hBb.block P hPW)).trans HPKW.out;have fkb:wb.frozen? ⟨P,1,none⟩=false:=frozen_of_row _ _ _ _ _ ((hBb.block P hPW).trans HXW2.out.obj);have HBb:=hid hBb;have HOW2:=hid hown2;clear hBb hown2 hgrow2 hnil2)
        have hqe:j+(gk-(j+1))=j+q:=by rw[HQ2.out]
        have HOW3:=hid (show wb.ownsRow W.heap.size 45 7 (.slice A2 (j+(gk-(j+1))) c2) (Xk.M.eraseIdx j).length ((Xk.M.eraseIdx j).flatMap grC_) by have h9:=HOW2.out;rw[HNE.out] at h9;rw[HEL.out];rw[←HQ2.out];exact h9)
        have HPUT2:=hid (HXW2.out.wset (wv':=(.slice A2 (j+(gk-(j+1))) c2)) (M':=Xk.M.eraseIdx j) HBb.out (gby_below (Below.refl _ _)) (own_baseR HOW3.out (by have:=HXW2.out.hP;omega)) (.inr fun k hk=>(HOW3.out.lt k hk).1) (fun p hp=>HXW2.out.good p (List.mem_append.2 (.inr (List.eraseIdx_subset hp)))))
        have HCb:=hid ((Below.heap_setCell wb ⟨P,1,none⟩ (.slice A2 (j+(gk-(j+1))) c2) w7.heap.size (by show w7.heap.size≠P;have:=HPW7.out;have:=HB7.out.size;omega)).trans ((HBb.out.block w7.heap.size hw7W).trans HCW.out))
        obtain⟨hX8,hT8⟩:=HPUT2.out
        rw[HEM.out] at hX8
        generalize hV8:wb.setCell ⟨P,1,none⟩ (.slice A2 (j+(gk-(j+1))) c2)=V8 at *
        clear hV8 pkb fkb HPUT2 HOW2 HOW3 hqe HBb
        generalize hXe8:({ Xk with wv:=(.slice A2 (j+(gk-(j+1))) c2),M:=Xk.M.eraseIdx j }:RbX)=X8 at *
        clear hXe8
        have HX8:=hid (show RbIn B P S (⟨bk.done,bk.wait.eraseIdx j,bk.v⟩:Bx).done (⟨bk.done,bk.wait.eraseIdx j,bk.v⟩:Bx).wait X8 V8 from hX8)
        have HG8:=hid (HGW.out.agr (hT8.gr.agr (fun i _ hs=>(HXW2.out.sep i hs).2)))
        have HT8:=hid (HTW2.out.trans hT8)
        have hw7o:∀k,OwnR P X8 k→k≠w7.heap.size:=fun k hk e=>by
         subst e
         rcases hT8.own _ hk with h1|h1
         ·have:=(HXK.out.own_lt h1).2;have:=HB7.out.size;omega
         ·omega
        have HO8:=hid hw7o
        have HVC:=hid (fun W (hB:Below V8.heap.size V8 W)=>(show Calls Tryz.prog 35 #[.pointer (some ⟨P,0,none⟩)] W fun e w'=>∃A' c',e= .returned (.slice A' bk.v.length c')∧VecS w' (fun _=>True) A' bk.v∧bk.v.length≤16∧Below W.heap.size W w' from rbvec_any (b:=⟨bk.done,bk.wait.eraseIdx j,bk.v⟩) (HX8.out.below hB) HRK2.out))
        have hw8:w7.heap.size<V8.heap.size:=lt_of_block HCb.out
        clear hX8 hT8 hw7o
        cases od
        case true=>
         have hzg:decide (z<n)=false:=by
          simp only[decide_eq_true_eq,decide_eq_false_iff_not] at hzo ⊢;omega
         refine wp_region_held (S:=fun w'=>w'.heap[w7.heap.size]? =some (.cells ([.int .i64 t,.int .i64 r,.int .i64 n,.slice dA u.length dc,.int .i64 ut,.int .i64 ur,.slice oA ops.length oc]:List Value).toArray 45 (0,0))) (by kernel_rfl) ?_
         try(change wpAnyH _ _ _ _ _ _ _ _ (World.drew _))
         refine tk 0 (.pointer (some ⟨w7.heap.size,2,none⟩)) ((show V8.drew.heap[w7.heap.size]? =_ from HCb.out)) ?_
         go_simp
         refine wpAnyH_take (i:=1) (v:= .int .i64 n) rfl (by kernel_rfl) (by kernel_rfl) (by kernel_rfl) (fun _ _ _ h=>h) (Or.inl ⟨by rfl,fun W' hW'=>by(have c_:W'.cell? ⟨w7.heap.size,2,none⟩=some (.int .i64 n):=(by rw[crw hW'];rfl);go_simp)⟩) ((show V8.drew.heap[w7.heap.size]? =_ from HCb.out)) ?_
         go_simp
         refine tk 2 (.pointer (some ⟨P,0,none⟩)) ((show V8.drew.heap[w7.heap.size]? =_ from HCb.out)) ?_
         go_simp
         refine tk 4 (.pointer (some ⟨w7.heap.size,0,none⟩)) ((show V8.drew.heap[w7.heap.size]? =_ from HCb.out)) ?_
         go_simp
         refine tk 5 (.pointer (some ⟨w7.heap.size,1,none⟩)) ((show V8.drew.heap[w7.heap.size]? =_ from HCb.out)) ?_
         go_simp
         refine wpAnyH_take (i:=6) (v:= .int .i64 r) rfl (by kernel_rfl) (by kernel_rfl) (by kernel_rfl) (fun _ _ _ h=>h) (Or.inl ⟨by rfl,fun W' hW'=>by(have c_:W'.cell? ⟨w7.heap.size,1,none⟩=some (.int .i64 r):=(by rw[crw hW'];rfl);go_simp)⟩) ((show V8.drew.heap[w7.heap.size]? =_ from HCb.out)) ?_
         go_simp
         refine wpAnyH_ready (rs:=[3]) (by kernel_rfl) (by simp) ?_
         refine AllReadyH.cons rfl (fun K hK=> ?_) AllReadyH.nil
         go_simp
         have hbd:Below V8.heap.size V8 V8.drew:=⟨rfl,rfl,rfl,Nat.le_refl _,fun _ _=>rfl⟩
         refine(HVC.out V8.drew hbd).mono ?_
         rintro e w9 ⟨A9,c9,rfl,hv9,hl9,hB9⟩
         have HB9:=hid (hbd.trans hB9)
         have HC9:=hid ((HB9.out.block w7.heap.size hw8).trans HCb.out)
         have HV9:=hid hv9
         clear hB9 hv9 hbd
         go_simp
         refine hK.out _ _ (HC9.out) (fun _=> ?_)
         clear hK K
         refine wpAnyH_ready (rs:=[7]) (by kernel_rfl) (by simp) ?_
         refine AllReadyH.cons rfl (fun K hK=> ?_) AllReadyH.nil
         go_simp
         refine(HAT.out w9 A9 c9 HV9.out hl9).mono ?_
         rintro e w2' ⟨rfl,hw2'⟩
         replace hw2':=hw2'.symm
         subst hw2'
         go_simp
         refine hK.out _ _ (HC9.out) (fun _=> ?_)
         clear hK K
         refine tk 8 (.bool false) (HC9.out) ?_
         go_simp
         refine wpAnyH_done (by kernel_rfl) ?_ _
         go_simp
         have hdr:=drainF_old (f:=j+q) HBN.out HOD.out
         have hel2:(bk.wait.eraseIdx j).length=j+q:=by rw[←HEM.out,List.length_map,HEL.out]
         have HEL2:=hid hel2
         have HHK:=hid (show D.1=(drainF (j+q) ⟨bk.done,bk.wait.eraseIdx j,bk.v⟩).1∧D.2+1=(drainF (j+q) ⟨bk.done,bk.wait.eraseIdx j,bk.v⟩).2+nk by have:=HEK.out;rw[HMW.out,←hq,hdr] at this;exact this)
         clear hel2 hdr
         go_wp2
         go_roundg (j+q)
         case measure=>omega
         case rel=>exact⟨⟨bk.done,bk.wait.eraseIdx j,bk.v⟩,nk,X8,rfl,HEL2.out,by omega,hid (HX8.out.below HB9.out),hid (HT8.out.trans (RbTo.of_below HB9.out)),HRK2,hid (by show D.1=(drainF (bk.wait.eraseIdx j).length _).1∧_=(drainF (bk.wait.eraseIdx j).length _).2+nk;rw[HEL2.out];exact HHK.out)⟩
        case false=>
         have hzg:decide (z<n)=true:=by
          simp only[decide_eq_true_eq,decide_eq_false_iff_not] at hzo ⊢;omega
         refine wp_region_held (S:=fun w'=>w'.heap[w7.heap.size]? =some (.cells ([.int .i64 t,.int .i64 r,.int .i64 n,.slice dA u.length dc,.int .i64 ut,.int .i64 ur,.slice oA ops.length oc]:List Value).toArray 45 (0,0))) (by kernel_rfl) ?_
         try(change wpAnyH _ _ _ _ _ _ _ _ (World.drew _))
         refine tk 0 (.pointer (some ⟨w7.heap.size,2,none⟩)) ((show V8.drew.heap[w7.heap.size]? =_ from HCb.out)) ?_
         go_simp
         refine wpAnyH_take (i:=1) (v:= .int .i64 n) rfl (by kernel_rfl) (by kernel_rfl) (by kernel_rfl) (fun _ _ _ h=>h) (Or.inl ⟨by rfl,fun W' hW'=>by(have c_:W'.cell? ⟨w7.heap.size,2,none⟩=some (.int .i64 n):=(by rw[crw hW'];rfl);go_simp)⟩) ((show V8.drew.heap[w7.heap.size]? =_ from HCb.out)) ?_
         go_simp
         refine tk 2 (.pointer (some ⟨P,0,none⟩)) ((show V8.drew.heap[w7.heap.size]? =_ from HCb.out)) ?_
         go_simp
         refine tk 4 (.pointer (some ⟨w7.heap.size,0,none⟩)) ((show V8.drew.heap[w7.heap.size]? =_ from HCb.out)) ?_
         go_simp
         refine tk 5 (.pointer (some ⟨w7.heap.size,1,none⟩)) ((show V8.drew.heap[w7.heap.size]? =_ from HCb.out)) ?_
         go_simp
         refine wpAnyH_take (i:=6) (v:= .int .i64 r) rfl (by kernel_rfl) (by kernel_rfl) (by kernel_rfl) (fun _ _ _ h=>h) (Or.inl ⟨by rfl,fun W' hW'=>by(have c_:W'.cell? ⟨w7.heap.size,1,none⟩=some (.int .i64 r):=(by rw[crw hW'];rfl);go_simp)⟩) ((show V8.drew.heap[w7.heap.size]? =_ from HCb.out)) ?_
         go_simp
         refine wpAnyH_ready (rs:=[3]) (by kernel_rfl) (by simp) ?_
         refine AllReadyH.cons rfl (fun K hK=> ?_) AllReadyH.nil
         go_simp
         have hbd:Below V8.heap.size V8 V8.drew:=⟨rfl,rfl,rfl,Nat.le_refl _,fun _ _=>rfl⟩
         refine(HVC.out V8.drew hbd).mono ?_
         rintro e w9 ⟨A9,c9,rfl,hv9,hl9,hB9⟩
         have HB9:=hid (hbd.trans hB9)
         have HC9:=hid ((HB9.out.block w7.heap.size hw8).trans HCb.out)
         have HV9:=hid hv9
         clear hB9 hv9 hbd
         go_simp
         refine hK.out _ _ (HC9.out) (fun _=> ?_)
         clear hK K
         refine wpAnyH_ready (rs:=[7]) (by kernel_rfl) (by simp) ?_
         refine AllReadyH.cons rfl (fun K hK=> ?_) AllReadyH.nil
         go_simp
         refine(HAT.out w9 A9 c9 HV9.out hl9).mono ?_
         rintro e w2' ⟨rfl,hw2'⟩
         replace hw2':=hw2'.symm
         subst hw2'
         go_simp
         refine hK.out _ _ (HC9.out) (fun _=> ?_)
         clear hK K
         refine tk 8 (.bool true) (HC9.out) ?_
         go_simp
         refine wpAnyH_done (by kernel_rfl) ?_ _
         go_simp
         go_upto_region 21 with fail
         have HX9:=hid (HX8.out.below HB9.out)
         have HG9:=hid (HG8.out.agr (Agr.below HB9.out))
         have hw9:w7.heap.size<w9.heap.size:=lt_of_block HC9.out
         obtain⟨eA8,ec8,hdv8⟩:=row_slice HX9.out.done
         have HDV8:=hid hdv8
         have HML8:=hid (show X8.L.length≤100000 by rw[HX9.out.dlen];have:=HRK2.out.len;omega)
         have hPn9:w7.heap.size≠P:=by have:=HPW7.out;have:=HB7.out.size;omega
         clear hdv8
         have hP3:P<w9.heap.size:=lt_of_block HX9.out.obj
         have p3:w9.cell? ⟨P,0,none⟩=some (.slice eA8 X8.L.length ec8):=by rw[HX9.out.cell,HDV8.out];rfl
         refine wp_region_held (S:=fun w'=>w'.heap[w7.heap.size]? =some (.cells ([.int .i64 t,.int .i64 r,.int .i64 n,.slice dA u.length dc,.int .i64 ut,.int .i64 ur,.slice oA ops.length oc]:List Value).toArray 45 (0,0))) (by kernel_rfl) ?_
         try(change wpAnyH _ _ _ _ _ _ _ _ (World.drew _))
         refine tk 0 (.pointer (some ⟨P,0,none⟩)) ((show w9.drew.heap[w7.heap.size]? =_ from HC9.out)) ?_
         go_simp
         refine tk 1 (.pointer (some ⟨P,0,none⟩)) ((show w9.drew.heap[w7.heap.size]? =_ from HC9.out)) ?_
         go_simp
         refine tk 2 (.pointer (some ⟨P,0,none⟩)) ((show w9.drew.heap[w7.heap.size]? =_ from HC9.out)) ?_
         go_simp
         refine tk 3 (.pointer (some ⟨P,0,none⟩)) ((show w9.drew.heap[w7.heap.size]? =_ from HC9.out)) ?_
         go_simp
         refine wpAnyH_take (i:=5) (v:= .agg ([.int .i64 t,.int .i64 r,.int .i64 n,.slice dA u.length dc,.int .i64 ut,.int .i64 ur,.slice oA ops.length oc]:List Value).toArray) rfl (by kernel_rfl) (by kernel_rfl) (by kernel_rfl) (fun _ _ _ h=>h) (yieldsIf_load_mid (by rfl) _ _ rfl w7.heap.size 0 rfl [.int .i64 t,.int .i64 r,.int .i64 n,.slice dA u.length dc,.int .i64 ut,.int .i64 ur,.slice oA ops.length oc] _ (fun W' hW'=>range_of_block hW') Tryz.underlying45 rfl (by kernel_rfl)) ((show w9.drew.heap[w7.heap.size]? =_ from HC9.out)) ?_
         go_simp
         have HBA3:=hid (show Below w9.heap.size w9 (w9.alloc (.cells ([.int .i64 t,.int .i64 r,.int .i64 n,.slice dA u.length dc,.int .i64 ut,.int .i64 ur,.slice oA ops.length oc]:List Value).toArray 45)).drew from⟨rfl,rfl,rfl,by simp,fun k hk=>Below.heap_alloc _ _ _ hk⟩)
         have HCA:=hid (show(w9.alloc (.cells ([.int .i64 t,.int .i64 r,.int .i64 n,.slice dA u.length dc,.int .i64 ut,.int .i64 ur,.slice oA ops.length oc]:List Value).toArray 45)).drew.heap[w7.heap.size]? =_ from(Below.heap_alloc w9 (.cells ([.int .i64 t,.int .i64 r,.int .i64 n,.slice dA u.length dc,.int .i64 ut,.int .i64 ur,.slice oA ops.length oc]:List Value).toArray 45) _ hw9).trans HC9.out)
         have HDN:=hid (HX9.out.done.alloc (.cells ([.int .i64 t,.int .i64 r,.int .i64 n,.slice dA u.length dc,.int .i64 ut,.int .i64 ur,.slice oA ops.length oc]:List Value).toArray 45))
         have HNC:=hid (fun (j:Nat) (y:Value) (h:([.int .i64 t,.int .i64 r,.int .i64 n,.slice dA u.length dc,.int .i64 ut,.int .i64 ur,.slice oA ops.length oc]:List Value)[j]? =some y)=>cellsN w9 [.int .i64 t,.int .i64 r,.int .i64 n,.slice dA u.length dc,.int .i64 ut,.int .i64 ur,.slice oA ops.length oc] 45 j y h)
         have hsA:(w9.alloc (.cells ([.int .i64 t,.int .i64 r,.int .i64 n,.slice dA u.length dc,.int .i64 ut,.int .i64 ur,.slice oA ops.length oc]:List Value).toArray 45)).drew.heap.size=w9.heap.size+1:=by show(w9.alloc _).heap.size=_;simp
         have pA3:(w9.alloc (.cells ([.int .i64 t,.int .i64 r,.int .i64 n,.slice dA u.length dc,.int .i64 ut,.int .i64 ur,.slice oA ops.length oc]:List Value).toArray 45)).drew.cell? ⟨P,0,none⟩=some (.slice eA8 X8.L.length ec8):=by show(w9.alloc _).cell? _=_;rw[crw ((Below.heap_alloc w9 (.cells ([.int .i64 t,.int .i64 r,.int .i64 n,.slice dA u.length dc,.int .i64 ut,.int .i64 ur,.slice oA ops.length oc]:List Value).toArray 45) P hP3).trans HX9.out.obj),HDV8.out];rfl
         rw[HDV8.out] at HDN
         refine wpAnyH_ready (rs:=[4,6]) (by kernel_rfl) (by simp) ?_
         refine AllReadyH.cons rfl (fun K hK=> ?_) (AllReadyH.cons rfl (fun K hK=> ?_) AllReadyH.nil)
         focus
          go_simp
          refine hK.out _ _ ((show w9.drew.heap[w7.heap.size]? =_ from HC9.out)) (fun _=> ?_)
          clear hK K
          refine wpAnyH_ready (rs:=[6]) (by kernel_rfl) (by simp) ?_
          refine AllReadyH.cons rfl (fun K hK=> ?_) AllReadyH.nil
          go_simp
          refine hK.out _ _ (HCA.out) (fun _=> ?_)
          clear hK K
         rotate_left
         focus
          go_simp
          refine hK.out _ _ (HCA.out) (fun _=> ?_)
          clear hK K
          refine wpAnyH_ready (rs:=[4]) (by kernel_rfl) (by simp) ?_
          refine AllReadyH.cons rfl (fun K hK=> ?_) AllReadyH.nil
          go_simp
          refine hK.out _ _ (HCA.out) (fun _=> ?_)
          clear hK K
         all_goals
          refine wpAnyH_ready (rs:=[7]) (by kernel_rfl) (by simp) ?_
          refine AllReadyH.cons rfl (fun K hK=> ?_) AllReadyH.nil
          refine step_append_lies _ (by rfl) _ _ 25 (by rfl) B 45 i0 (.agg #[.int .i64 0,.int .i64 0,.int .i64 0,.slice none 0 0,.int .i64 0,.int .i64 0,.slice none 0 0]) 7 88 Tryz.underlying25 hi hz0 hz1 hz2 rfl (by decide) (.slice eA8 X8.L.length ec8) X8.L.length _ (by rfl) (by exact HDN.out) ⟨w9.heap.size,0,none⟩ 1 1 [.int .i64 t,.int .i64 r,.int .i64 n,.slice dA u.length dc,.int .i64 ut,.int .i64 ur,.slice oA ops.length oc] (by rfl) rfl (by exact HNC.out) (by exact ocgrC_ ((⟨⟨t,r⟩,n,u,⟨ut,ur⟩,ops⟩:Grp),(⟨dA,dc,oA,oc⟩:GrX))) (by decide) (by have:=HML8.out;unfold maxLen;omega) (by have:=HML8.out;omega) (by have:=HX9.out.hP;rw[hsA];omega) (w9.heap.size+1) hsA ?_
          intro gq cap w5 hown1 hgrow hat hlt3
          rw[←HDV8.out] at hgrow hat
          have hgne:some (w7.heap.size)≠X8.dv.ownBlock:=fun e=>HO8.out _ (.inr (.inl e.symm)) rfl
          have HC5:=hid ((hgrow.block (w7.heap.size) (by rw[hsA];omega) hgne).trans HCA.out)
          have hPd:some P≠X8.dv.ownBlock:=fun e=>HX9.out.dP e.symm
          have hob:=(hgrow.block P (by rw[hsA];omega) hPd).trans ((HBA3.out.block P hP3).trans HX9.out.obj)
          have d5:w5.cell? ⟨P,0,none⟩=some (.slice eA8 X8.L.length ec8):=by rw[crw hob,HDV8.out];rfl
          have f5:w5.frozen? ⟨P,0,none⟩=false:=frozen_of_row _ _ _ _ _ hob
          have hown2:w5.ownsRow B 45 7 (.slice (some ⟨gq,0,none⟩) (X8.L.length+1) cap) (X8.L++[((⟨⟨t,r⟩,n,u,⟨ut,ur⟩,ops⟩:Grp),(⟨dA,dc,oA,oc⟩:GrX))]).length ((X8.L++[((⟨⟨t,r⟩,n,u,⟨ut,ur⟩,ops⟩:Grp),(⟨dA,dc,oA,oc⟩:GrX))]).flatMap grC_):=by rw[List.length_append,List.flatMap_append,List.flatMap_singleton];exact hown1
          have HPUT:=hid (HX9.out.dset (dv':= .slice (some ⟨gq,0,none⟩) (X8.L.length+1) cap) (L':=X8.L++[((⟨⟨t,r⟩,n,u,⟨ut,ur⟩,ops⟩:Grp),(⟨dA,dc,oA,oc⟩:GrX))]) HBA3.out hgrow hown2 (hat.elim (fun e=> .inl (by rw[e];rfl)) (fun e=> .inr (fun k hk=>by have hk:some gq=some k:=hk;injection hk with hk;omega))) (fun p hp=>by rcases List.mem_append.1 hp with hp|hp;exact HX9.out.good p (List.mem_append.2 (.inl hp));rw[List.mem_singleton] at hp;rw[hp];exact HG9.out))
          clear hown1 hown2 hgrow hat hgne hPd hlt3 hob
          refine hK.out _ _ (HC5.out) (fun _=> ?_)
          clear hK K
          refine tk 8 (.pointer (some ⟨P,0,none⟩)) (HC5.out) ?_
          go_simp
          refine tk 9 (.pointer (some ⟨P,0,none⟩)) (HC5.out) ?_
          go_simp
          refine wpAnyH_ready (rs:=[10]) (by kernel_rfl) (by simp) ?_
          refine AllReadyH.cons rfl (fun K hK=> ?_) AllReadyH.nil
          go_simp
          have HC6:=hid ((Below.heap_setCell w5 ⟨P,0,none⟩ (.slice (some ⟨gq,0,none⟩) (X8.L.length+1) cap) (w7.heap.size) (by show w7.heap.size≠P;omega)).trans HC5.out)
          refine hK.out _ _ (HC6.out) (fun _=> ?_)
          clear hK K
          refine wpAnyH_done (by kernel_rfl) ?_ _
          go_simp
          obtain⟨hX6,hT6⟩:=HPUT.out
          have hdr:=drainF_put (f:=j+q) HBN.out HOD.out
          have hel2:(bk.wait.eraseIdx j).length=j+q:=by rw[←HEM.out,List.length_map,HEL.out]
          have HEL2:=hid hel2
          have HHK:=hid (show D.1=(drainF (j+q) (Bx.put ⟨bk.done,bk.wait.eraseIdx j,bk.v⟩ (bk.wait.getD j gz))).1∧D.2+1=(drainF (j+q) (Bx.put ⟨bk.done,bk.wait.eraseIdx j,bk.v⟩ (bk.wait.getD j gz))).2+(nk+1) by have h9:=HEK.out;rw[HMW.out,←hq,hdr] at h9;refine⟨h9.1,?_⟩;have:=h9.2;omega)
          have HX10:=hid (show RbIn B P S (Bx.put ⟨bk.done,bk.wait.eraseIdx j,bk.v⟩ (bk.wait.getD j gz)).done (Bx.put ⟨bk.done,bk.wait.eraseIdx j,bk.v⟩ (bk.wait.getD j gz)).wait _ _ by have h9:=hX6;rw[List.map_append,HX9.out.dl] at h9;rw[←HPW.out];exact h9)
          have HT10:=hid ((HT8.out.trans (RbTo.of_below HB9.out)).trans hT6)
          have HRK3:=hid (show RbOk (Bx.put ⟨bk.done,bk.wait.eraseIdx j,bk.v⟩ (bk.wait.getD j gz)) from⟨HRK.out.ok.step HBN.out HOD.out,fun y hy=>by
           simp only[Bx.put,List.mem_append,List.mem_singleton] at hy
           rcases hy with(hy|rfl)|hy
           ·exact HRK.out.txt y (List.mem_append.2 (.inl hy))
           ·exact HRK.out.txt _ (List.mem_append.2 (.inr (getD_mem (by rw[HMW.out];exact hjk))))
           ·exact HRK.out.txt y (List.mem_append.2 (.inr (List.mem_of_mem_eraseIdx hy))),by have h9:=HRK.out.len;rw[HMW.out] at h9;show(bk.done++[_]).length+(bk.wait.eraseIdx j).length≤_;rw[List.length_append,List.length_singleton,hel2];omega⟩)
          clear hel2 hdr hX6 hT6 HPUT
          go_wp2
          go_roundg (j+q)
          case measure=>omega
          case rel=>exact⟨Bx.put ⟨bk.done,bk.wait.eraseIdx j,bk.v⟩ (bk.wait.getD j gz),nk+1,_,by go_num,HEL2.out,by omega,HX10,HT10,HRK3,hid (by show D.1=(drainF (bk.wait.eraseIdx j).length _).1∧_=(drainF (bk.wait.eraseIdx j).length _).2+(nk+1);rw[HEL2.out];exact HHK.out)⟩
end
end Go.Proofs.YtkhmicndehlneaaGreatDoor
