/- Part 28 of the walks and plain laws that this claim uses, joined. Conditions: as each theorem states. -/
import Derived.Test.YtkhmicndehlneaaGreatDoorYtA
namespace Go.Proofs.YtkhmicndehlneaaGreatDoor
set_option maxRecDepth 100000
set_option maxHeartbeats 16000000
section
open Go.RowKit Go.Lib Go.Sort
set_option linter.unusedVariables false
attribute [local go_sem ↓] Go.wp_at_zero Go.wp_at_succ
theorem text16_any (L:List (Grp×GrX)) (A:Option Addr) (c:Nat) (xt xr xi:Int) (S:Nat→Prop) (w00:World) (hl:L.length≤20) (hlo:∀p∈L,p.1.ops.length≤2∧∀o∈p.1.ops,o.elems.length≤10) (hld:∀p∈L,∀o∈p.1.ops,o.text.size≤1000000)
  (hrl:(runsL ⟨⟨xt,xr⟩,xi⟩ L).length≤90) (hh:∀p∈runsL ⟨⟨xt,xr⟩,xi⟩ L,p.tx.size≤1000∧0<p.el.s.t∧0≤p.el.i∧p.el.i≤1000000) (hN:((eltsW (runsL ⟨⟨xt,xr⟩,xi⟩ L)).map (·.id)).Nodup) (hZ:∀y∈eltsW (runsL ⟨⟨xt,xr⟩,xi⟩ L),y.id≠ .zero)
  (hR:RowGr w00 A L) (hG:∀p∈L,GrG w00 S p) (hck:∀p∈L,chkB p.1=true) (hnd:(L.map (·.1.s)).Nodup):
  Calls Tryz.prog 59 #[.slice A L.length c,.agg #[.int .i64 xt,.int .i64 xr,.int .i64 xi]] w00 fun e w'=>∃A' c',e= .returned (.slice A' (textG L ⟨⟨xt,xr⟩,xi⟩).length c')∧(textG L ⟨⟨xt,xr⟩,xi⟩).length≤90000∧w'.ownsRow w00.heap.size 169 7 (.slice A' (textG L ⟨⟨xt,xr⟩,xi⟩).length c') (textG L ⟨⟨xt,xr⟩,xi⟩).length ((textG L ⟨⟨xt,xr⟩,xi⟩).flatMap eltL)∧Below w00.heap.size w00 w':=by
 have hb0:Below w00.heap.size w00 (w00.alloc (.cells #[.int .i64 xt,.int .i64 xr,.int .i64 xi] 108)):=(Below.refl _ _).alloc (Nat.le_refl _) _
 have HB0:=hid hb0
 have HX0:=hid (heap_alloc_new w00 (.cells #[.int .i64 xt,.int .i64 xr,.int .i64 xi] 108))
 have hG0:=fun p hp=>(hG p hp).agr (Agr.below hb0)
 have HRG:=hid (refrights_any L A c S (w00.alloc (.cells #[.int .i64 xt,.int .i64 xr,.int .i64 xi] 108)) (by omega) (hR.below hb0) hG0 (fun p hp o ho=>hld p hp o ho) hck hnd)
 have HG0:=hid hG0
 obtain⟨ON,hON⟩:∃X,X=onS (L.map hdOf):=⟨_,rfl⟩
 have HONL:=hid (show ON.length≤20 by have h9:=onS_len (L.map hdOf);rw[←hON,List.length_map] at h9;omega)
 have HTX:textG L ⟨⟨xt,xr⟩,xi⟩=seenW (runsL ⟨⟨xt,xr⟩,xi⟩ L) ON (goneL ON ⟨⟨xt,xr⟩,xi⟩ L):=by rw[hON];rfl
 rw[HTX]
 have HON:=hid hON
 have HRU:=hid (fun (A1:Option Addr) (c1:Nat) (W:World) (h1:RowGr W A1 L) (h2:∀p∈L,GrG W S p)=>runs_any L A1 c1 xt xr xi S W (by omega) (fun p hp=>by have:=(hlo p hp).1;omega) h1 h2)
 have HGO:=hid (fun (A1:Option Addr) (c1:Nat) (onA:Option Addr) (onc:Nat) (T:Nat→Prop) (W:World) (h1:RowGr W A1 L) (h2:∀p∈L,GrG W S p) (h3:RowF W T onA 2 stL .zero ON)=>gone_any L A1 c1 ON onA onc xt xr xi S T W hl hlo (by have:=HONL.out;omega) h1 h2 h3)
 obtain⟨RU,hRU⟩:∃X,X=runsL ⟨⟨xt,xr⟩,xi⟩ L:=⟨_,rfl⟩
 obtain⟨GO,hGO⟩:∃X,X=goneL ON ⟨⟨xt,xr⟩,xi⟩ L:=⟨_,rfl⟩
 rw[←hRU] at hrl hh hN hZ HRU
 rw[←hGO] at HGO
 rw[←hRU,←hGO]
 have HSE:=hid (fun (A1 A2 A3:Option Addr) (c1 c2 c3:Nat) (S1 S2 S3:Nat→Prop) (W:World) (h1:RowF W S1 A1 7 rnL rn0 RU) (h2:RowF W S2 A2 2 stL .zero ON) (h3:RowF W S3 A3 3 idL .zero GO) (h4:GO.length≤400)=>seen_any RU A1 A2 A3 c1 c2 c3 ON GO S1 S2 S3 W hrl hh h1 hN hZ (by have:=HONL.out;omega) (by omega) h2 h3)
 clear hR hG hb0 hG0 hlo hld hrl hh hN hZ hck hnd hRU hGO HTX hON
 go_enter Tryz.func59,Tryz.ntmps59
 go_upto_region 1 with fail
 generalize hW:w00.alloc (.cells #[.int .i64 xt,.int .i64 xr,.int .i64 xi] 108)=w0 at *
 generalize hxb:w00.heap.size=xb at *
 have HXB:=hid hxb
 clear hW hxb
 go_upto_region 2 with(go_at_call 106;refine HRG.out.mono ?_;rintro e w1 ⟨A1,c1,rfl,hown1,hB1⟩;have HR1:=hid (RowGr.own hown1);have HG1:=hid (fun p hp=>(HG0.out p hp).agr (Agr.below hB1));have HX1:=hid ((hB1.block _ (lt_of_block HX0.out)).trans HX0.out);have HB1:=hid (HB0.out.trans (hB1.mono (Nat.le_of_lt (lt_of_block HX0.out))));have HHD:=hid (heads_any L A1 c1 w1 (by omega) HR1.out);clear hown1 hB1)
 go_upto_region 3 with(first
  |(go_at_call 108;refine HHD.out.mono ?_;rintro e w2 ⟨A2,c2,rfl,hown2,hB2⟩;have HB2:=hid hB2;have HOC:=hid (on_any (L.map hdOf) A2 c2 _ w2 (by simp;omega) (ownN_rowF (n:=L.length) (f:=hdL) (z:=hd0) (fun _=>rfl) (by simp) hown2));clear hown2 hB2)
  |(go_at_call 107;rw[List.length_map] at HOC;refine HOC.out.mono ?_;rintro e w3 ⟨onA,onc,rfl,hown3,hB3⟩;rw[←HON.out] at hown3;rw[←HON.out];have HB3:=hid (HB2.out.trans (hB3.mono HB2.out.size));have HN3:=hid (ownN_rowF (f:=stL) (z:=Gst.zero) (fun _=>rfl) rfl hown3);clear hown3 hB3))
 have HR3:=hid (HR1.out.below HB3.out)
 have HG3:=hid (fun p hp=>(HG1.out p hp).agr (Agr.below HB3.out))
 have HX3:=hid ((HB3.out.block _ (lt_of_block HX1.out)).trans HX1.out)
 have HBZ:=hid (HB1.out.trans (HB3.out.mono (by have h1:=HB1.out.size;have h2:=HXB.out;omega)))
 clear HRG HG0 HX0 HR1 HG1 HX1 HB1 HHD HB2 HOC HB3 HON
 refine wp_region_held (S:=fun W=>W.heap[xb]? =some (.cells #[.int .i64 xt,.int .i64 xr,.int .i64 xi] 108 (0,0))) (by kernel_rfl) ?_
 try(change wpAnyH _ _ _ _ _ _ _ _ (World.drew _))
 refine tk 0 (.slice A1 L.length c1) (show w3.drew.heap[xb]? =_ from HX3.out) ?_
 go_simp
 refine wpAnyH_take (i:=1) (v:= .agg #[.int .i64 xt,.int .i64 xr,.int .i64 xi]) rfl (by kernel_rfl) (by kernel_rfl) (by kernel_rfl) (fun _ _ _ h=>h) (yieldsIf_load_mid (by rfl) _ _ rfl xb (0) rfl [.int .i64 xt,.int .i64 xr,.int .i64 xi] _ (fun W' hW'=>range_mid (pre:=[]) (mid:=[.int .i64 xt,.int .i64 xr,.int .i64 xi]) (post:=[]) (range_of_block hW')) Tryz.underlying108 rfl (by kernel_rfl)) (show w3.drew.heap[xb]? =_ from HX3.out) ?_
 go_simp
 refine tk 3 (.slice onA ON.length onc) (show w3.drew.heap[xb]? =_ from HX3.out) ?_
 go_simp
 refine tk 4 (.slice A1 L.length c1) (show w3.drew.heap[xb]? =_ from HX3.out) ?_
 go_simp
 refine tk 5 (.slice onA ON.length onc) (show w3.drew.heap[xb]? =_ from HX3.out) ?_
 go_simp
 refine wpAnyH_take (i:=6) (v:= .agg #[.int .i64 xt,.int .i64 xr,.int .i64 xi]) rfl (by kernel_rfl) (by kernel_rfl) (by kernel_rfl) (fun _ _ _ h=>h) (yieldsIf_load_mid (by rfl) _ _ rfl xb (0) rfl [.int .i64 xt,.int .i64 xr,.int .i64 xi] _ (fun W' hW'=>range_mid (pre:=[]) (mid:=[.int .i64 xt,.int .i64 xr,.int .i64 xi]) (post:=[]) (range_of_block hW')) Tryz.underlying108 rfl (by kernel_rfl)) (show w3.drew.heap[xb]? =_ from HX3.out) ?_
 go_simp
 refine wpAnyH_ready (rs:=[2]) (by kernel_rfl) (by simp) ?_
 refine AllReadyH.cons rfl (fun K hK=> ?_) AllReadyH.nil
 go_simp
 go_at_call 115
 refine(HRU.out A1 c1 w3.drew (HR3.out.below ((Below.refl _ _).drew)) (fun p hp=>(HG3.out p hp).agr (Agr.below ((Below.refl _ _).drew)))).mono ?_
 rintro e w4 ⟨rA,rc,rfl,hown4,hB4⟩
 have HB4:=hid (show Below w3.heap.size w3 w4 from((Below.refl w3.heap.size w3).drew).trans hB4)
 have HRN:=hid (ownN_rowF (z:=rn0) (f:=rnL) (fun _=>rfl) rfl hown4)
 have HX4:=hid ((HB4.out.block _ (lt_of_block HX3.out)).trans HX3.out)
 clear hown4 hB4
 refine hK.out _ _ (HX4.out) (fun _=> ?_)
 clear hK K
 refine wpAnyH_ready (rs:=[7]) (by kernel_rfl) (by simp) ?_
 refine AllReadyH.cons rfl (fun K hK=> ?_) AllReadyH.nil
 go_simp
 go_at_call 116
 refine(HGO.out A1 c1 onA onc _ w4 (HR3.out.below HB4.out) (fun p hp=>(HG3.out p hp).agr (Agr.below HB4.out)) (HN3.out.below HB4.out)).mono ?_
 rintro e w5 ⟨gA,gc,rfl,hgl,hown5,hB5⟩
 have HB5:=hid (HB4.out.trans (hB5.mono HB4.out.size))
 have HRN:=hid (HRN.out.below hB5)
 have HGN:=hid (ownN_rowF (z:=Gid.zero) (f:=idL) (fun _=>rfl) rfl hown5)
 have HX5:=hid ((hB5.block _ (lt_of_block HX4.out)).trans HX4.out)
 clear hown5 hB5
 refine hK.out _ _ (HX5.out) (fun _=> ?_)
 clear hK K
 refine wpAnyH_ready (rs:=[8]) (by kernel_rfl) (by simp) ?_
 refine AllReadyH.cons rfl (fun K hK=> ?_) AllReadyH.nil
 go_simp
 go_at_call 114
 refine(HSE.out rA onA gA rc onc gc _ _ _ w5 HRN.out (HN3.out.below HB5.out) HGN.out hgl).mono ?_
 rintro e w6 ⟨sA,sc,rfl,hsl,hown6,hB6⟩
 have HB6:=hid (HB5.out.trans (hB6.mono HB5.out.size))
 have HO6:=hid hown6
 have HX6:=hid ((hB6.block _ (lt_of_block HX5.out)).trans HX5.out)
 have HSL:=hid hsl
 clear hown6 hB6 hsl
 refine hK.out _ _ (HX6.out) (fun _=> ?_)
 clear hK K
 refine tk 9 (.slice sA (seenW RU ON GO).length sc) (HX6.out) ?_
 go_simp
 refine wpAnyH_done (by kernel_rfl) ?_ _
 go_simp
 go_wp2
 go_ret
 obtain rfl:=HXB.out
 exact⟨sA,sc,rfl,HSL.out,own_base HO6.out (Nat.le_trans HBZ.out.size HB5.out.size),HBZ.out.trans (HB6.out.mono HBZ.out.size)⟩
def txtE (L:List Elt):ByteArray:=L.foldl (fun s e=>s++e.pc) ⟨#[]⟩
theorem txt_size:∀(L:List Elt) (s:ByteArray),(∀e∈L,e.pc.size≤1000)→(L.foldl (fun s e=>s++e.pc) s).size≤s.size+L.length*1000
 | [],s,h=>by simp
 |e::L,s,h=>by
  have h1:=txt_size L (s++e.pc) fun x hx=>h x (by simp[hx])
  have h2:=h e (by simp)
  rw[ByteArray.size_append] at h1
  rw[List.foldl_cons,List.length_cons];omega
theorem text9_any (L:List Elt) (A:Option Addr) (c:Nat) (S:Nat→Prop) (w:World) (hl:L.length≤90000) (hp:∀e∈L,e.pc.size≤1000) (hR:RowF w S A 7 eltL elt0 L):
  Calls Tryz.prog 58 #[.slice A L.length c] w fun e w'=>e= .returned (.string (txtE L))∧Below w.heap.size w w':=by
 have HR:=hid hR
 have HP:=hid hp
 clear hR hp
 go_enter Tryz.func58,Tryz.ntmps58
 go_upto_region 3 with fail
 go_loopw [3,4] (fun s i wr=>∃(k:Nat) (B:ByteArray),k≤L.length∧i= .int .i64 k∧s= .string B∧Hid (B=txtE (L.take k))∧Hid (Below w.heap.size w wr)) (fun s i _=>L.length-(RowKit.intOf i).toNat)
 case atStart=>exact⟨0,⟨#[]⟩,Nat.zero_le _,rfl,rfl,hid rfl,hid (Below.refl _ _)⟩
 case round=>
  obtain⟨k,B,hk,rfl,rfl,HBT,HB⟩:=hrel
  by_cases hlt:k<L.length
  ·have i1:(0:Int)≤(k:Int):=by omega
   have i2:(k:Int)<(L.length:Int):=by omega
   obtain⟨rb,ro,rfl,-,hrb,hrange⟩:=HR.out.range (fun _=>rfl) hlt
   have hst:txtE (L.take (k+1))=B++(L.getD k elt0).pc:=by rw[HBT.out];exact foldl_take _ _ hlt elt0
   have hsz:B.size≤90000*1000:=by
    have h9:=txt_size (L.take k) ⟨#[]⟩ fun e he=>HP.out e (List.mem_of_mem_take he)
    rw[HBT.out]
    rw[List.length_take] at h9
    have h8:(⟨#[]⟩:ByteArray).size=0:=rfl
    unfold txtE;omega
   have hpp:=HP.out _ (getD_memF hlt elt0)
   generalize L.getD k elt0=p at *
   obtain⟨⟨⟨nt,nr⟩,ni⟩,⟨⟨pt,pr⟩,pi⟩,nm⟩:=p
   have hpp:nm.size≤1000:=hpp
   have z6:wr.cell? ⟨rb,ro+k*7+6,none⟩=some (.string nm):=(rangeB hrange hrb HB.out) 6 _ rfl
   have hms:¬maxLen<B.size+nm.size:=by unfold maxLen;omega
   have HST:=hid (show txtE (L.take (k+1))=B++nm from hst)
   clear hrange hrb hst hsz hpp
   go_wp2
   go_roundw
   case rel=>exact⟨k+1,B++nm,by omega,by go_num,rfl,hid HST.out.symm,HB⟩
   case measure=>(simp[RowKit.intOf];omega)
  ·obtain rfl:k=L.length:=by omega
   have i2:¬(L.length:Int)<(L.length:Int):=by omega
   rw[List.take_length] at HBT
   go_wp2
   go_ret
   exact⟨by rw[HBT.out];rfl,HB.out⟩
def entL (p:Itm×List Elt):List Value:=[.string p.1.path,.bool p.1.dir,.string (txtE p.2)]
def ent0:Itm×List Elt:=(itm0,[])
theorem info_ent:(Tryz.prog.info? 99).map (fun i=>(i.zero,i.size,i.bytes))=some (some (.agg #[.string ⟨#[]⟩,.bool false,.string ⟨#[]⟩]),3,40):=by kernel_rfl
theorem entG_len (L:List (Grp×GrX)):(entG L).length=(itemsG L).length:=by unfold entG;rw[List.length_map]
theorem entG_succ (L:List (Grp×GrX)) {k:Nat} (h:k<(itemsG L).length):(entG L).take (k+1)=(entG L).take k++[((itemsG L).getD k itm0,if ((itemsG L).getD k itm0).dir=true then [] else textG L ((itemsG L).getD k itm0).n)]:=by
 rw[takeD_succ (by rw[entG_len];exact h) ent0]
 congr 2
 unfold entG
 rw[List.getD_eq_getElem?_getD,List.getElem?_map,List.getElem?_eq_getElem h,List.getD_eq_getElem?_getD,List.getElem?_eq_getElem h]
 rfl
theorem entries_any (L:List (Grp×GrX)) (A:Option Addr) (c:Nat) (S:Nat→Prop) (w00:World) (hl:L.length≤20) (hlo:∀p∈L,p.1.ops.length≤2∧∀o∈p.1.ops,o.elems.length≤10) (hld:∀p∈L,∀o∈p.1.ops,o.dots.length≤100∧o.text.size≤1000000)
  (hX:∀x,(runsL x L).length≤90∧(∀p∈runsL x L,p.tx.size≤1000∧0<p.el.s.t∧0≤p.el.i∧p.el.i≤1000000)∧((eltsW (runsL x L)).map (·.id)).Nodup∧(∀y∈eltsW (runsL x L),y.id≠ .zero)∧∀e∈textG L x,e.pc.size≤1000) (hI:(itemsG L).length≤10000)
  (hR:RowGr w00 A L) (hG:∀p∈L,GrG w00 S p) (hck:∀p∈L,chkB p.1=true) (hnd:(L.map (·.1.s)).Nodup):
  Calls Tryz.prog 25 #[.slice A L.length c] w00 fun e w'=>∃A' c',e= .returned (.slice A' (entG L).length c')∧w'.ownsRow w00.heap.size 99 3 (.slice A' (entG L).length c') (entG L).length ((entG L).flatMap entL)∧Below w00.heap.size w00 w':=by
 obtain⟨i0,hi,hz0,hz1,hz2⟩:=info_parts info_ent
 have HOF:=hid (of16_any L A c S w00 hl (fun p hp=>(hlo p hp).1) hld hR hG hck hnd)
 have HTX:=hid (fun (x y z:Int) (W:World) (hB:Below w00.heap.size w00 W)=>text16_any L A c x y z S W hl hlo (fun p hp o ho=>(hld p hp o ho).2) (hX ⟨⟨x,y⟩,z⟩).1 (hX ⟨⟨x,y⟩,z⟩).2.1 (hX ⟨⟨x,y⟩,z⟩).2.2.1 (hX ⟨⟨x,y⟩,z⟩).2.2.2.1 (hR.below hB) (fun p hp=>(hG p hp).agr (Agr.below hB)) hck hnd)
 have HPC:=hid (fun x=>(hX x).2.2.2.2)
 have HEL:=entG_len L
 have HES:=hid (fun (k:Nat) (h:k<(itemsG L).length)=>entG_succ L h)
 generalize entG L=EN at *
 generalize itemsG L=IT at *
 clear hX hR hG hck hnd hlo hld
 go_enter Tryz.func25,Tryz.ntmps25
 go_upto_region 2 with(first
  |(go_at_call 57;refine HOF.out.mono ?_;rintro e w1 ⟨oA,pA,hA,lA,iA,on,oc,pn,pc,hc,lc,ic,rfl,-,-,hIT,hB1⟩;have HI1:=hid hIT;have HB1:=hid hB1;clear hIT hB1)
  |(refine store_last rfl _ _ _ rfl _ _ _ _ rfl ?_ rfl ?_ ?_ ?_ ?_;(focus(simp;done));kernel_rfl;rfl;rfl))
 have hbs:Below w1.heap.size w1 (w1.alloc (.cells #[.slice oA on oc,.slice pA pn pc,.slice hA (haveL L).length hc,.slice lA (lostL L).length lc,.slice iA IT.length ic] 105)):=(Below.refl _ _).alloc (Nat.le_refl _) _
 have HSC:=hid (heap_alloc_new w1 (.cells #[.slice oA on oc,.slice pA pn pc,.slice hA (haveL L).length hc,.slice lA (lostL L).length lc,.slice iA IT.length ic] 105))
 have HB2:=hid (HB1.out.trans (hbs.mono HB1.out.size))
 have HI2:=hid (HI1.out.below hbs)
 generalize hW:w1.alloc (.cells #[.slice oA on oc,.slice pA pn pc,.slice hA (haveL L).length hc,.slice lA (lostL L).length lc,.slice iA IT.length ic] 105)=w2 at *
 generalize w1.heap.size=sB at *
 clear hW hbs HI1 HB1 HOF
 have hsz2:=HB2.out.size
 go_upto_region 4 with fail
 go_loopw [4,5] (fun o i wr=>∃(k:Nat) (A':Option Addr) (c':Nat),k≤IT.length∧i= .int .i64 k∧o= .slice A' k c'∧Hid (wr.ownsRow w2.heap.size 99 3 (.slice A' k c') k ((EN.take k).flatMap entL))∧Hid (Below w2.heap.size w2 wr)) (fun o i _=>IT.length-(RowKit.intOf i).toNat)
 case atStart=>exact⟨0,none,0,Nat.zero_le _,rfl,rfl,hid (World.ownsRow_nil _ _ _ _),hid (Below.refl _ _)⟩
 case round=>
  obtain⟨k,A',c',hk,rfl,rfl,HO,HBr⟩:=hrel
  have HSR:=hid ((HBr.out.block _ (lt_of_block HSC.out)).trans HSC.out)
  have s4:wr.cell? ⟨sB,4,none⟩=some (.slice iA IT.length ic):=cell_of_row _ _ _ _ _ _ HSR.out
  have hszr:=HBr.out.size
  by_cases hlt:k<IT.length
  ·have i1:(0:Int)≤(k:Int):=by omega
   have i2:(k:Int)<(IT.length:Int):=by omega
   obtain⟨rb,ro,rfl,-,hrb,hrange⟩:=HI2.out.range (fun _=>rfl) hlt
   have hst:=HES.out k hlt
   generalize IT.getD k itm0=p at *
   obtain⟨⟨⟨nt,nr⟩,ni⟩,pth,dir,bck⟩:=p
   have HRG:=hid (show wr.rangeAt rb (ro+k*6) [.int .i64 nt,.int .i64 nr,.int .i64 ni,.string pth,.bool dir,.bool bck] from rangeB hrange hrb HBr.out)
   have HST:=hid hst
   clear hrange hrb hst
   go_upto_region 7 with(first
    |(refine wpList_load_mid rfl _ _ rfl rb (ro+k*6) rfl [.int .i64 nt,.int .i64 nr,.int .i64 ni,.string pth,.bool dir,.bool bck] _ HRG.out Tryz.underlying110 rfl (by kernel_rfl) ?_)
    |(refine store_last rfl _ _ _ rfl _ _ _ _ rfl ?_ rfl ?_ ?_ ?_ ?_;(focus(simp;done));kernel_rfl;rfl;rfl))
   have hbx:Below wr.heap.size wr (wr.alloc (.cells #[.int .i64 nt,.int .i64 nr,.int .i64 ni,.string pth,.bool dir,.bool bck] 110)):=(Below.refl _ _).alloc (Nat.le_refl _) _
   have HCX:=hid (heap_alloc_new wr (.cells #[.int .i64 nt,.int .i64 nr,.int .i64 ni,.string pth,.bool dir,.bool bck] 110))
   have HOX:=hid (HO.out.kept (gby_below (r:=none) hbx) (Classical.em _))
   have HBX:=hid (HBr.out.trans (hbx.mono hszr))
   generalize hW:wr.alloc (.cells #[.int .i64 nt,.int .i64 nr,.int .i64 ni,.string pth,.bool dir,.bool bck] 110)=w3 at *
   generalize wr.heap.size=xB at *
   clear hW hbx HO HBr HRG HSR s4
   have z3:w3.cell? ⟨xB,3,none⟩=some (.string pth):=cell_of_row _ _ _ _ _ _ HCX.out
   have z4:w3.cell? ⟨xB,4,none⟩=some (.bool dir):=cell_of_row _ _ _ _ _ _ HCX.out
   have hsz3:=HBX.out.size
   go_upto_region 8 with(refine store_last rfl _ _ _ rfl _ _ _ _ rfl ?_ rfl ?_ ?_ ?_ ?_;(focus(simp;done));kernel_rfl;rfl;rfl)
   have hby:Below w3.heap.size w3 (w3.alloc (.cells #[.string pth,.bool dir,.string ⟨#[]⟩] 99)):=(Below.refl _ _).alloc (Nat.le_refl _) _
   have HNE:=hid (show(Value.slice A' k c').ownBlock≠some w3.heap.size from fun e=>Nat.lt_irrefl _ (HOX.out.lt _ e).2)
   have HEY:=hid (heap_alloc_new w3 (.cells #[.string pth,.bool dir,.string ⟨#[]⟩] 99))
   have HCY:=hid ((hby.block _ (lt_of_block HCX.out)).trans HCX.out)
   have HOY:=hid (HOX.out.kept (gby_below (r:=none) hby) (Classical.em _))
   have HBY:=hid (HBX.out.trans (hby.mono hsz3))
   have hxy:=lt_of_block HCX.out
   generalize hW:w3.alloc (.cells #[.string pth,.bool dir,.string ⟨#[]⟩] 99)=w4 at *
   generalize hyb:w3.heap.size=yB at *
   clear hW hby HCX HOX HBX z3 z4
   have hsz4:=HBY.out.size
   have z4:w4.cell? ⟨xB,4,none⟩=some (.bool dir):=cell_of_row _ _ _ _ _ _ HCY.out
   cases dir with
   | true=>
    have HS9:=hid (show EN.take (k+1)=EN.take k++[((⟨⟨⟨nt,nr⟩,ni⟩,pth,true,bck⟩:Itm),([]:List Elt))] by rw[HST.out];rfl)
    go_wp2_with (first
     |(refine load_at rfl _ _ rfl yB _ _ _ rfl HEY.out Tryz.underlying99 rfl ?_ ?_;kernel_rfl)
     |(at_builtin;refine wpList_append_lies _ rfl _ _ 51 rfl w2.heap.size 99 i0 (.agg #[.string ⟨#[]⟩,.bool false,.string ⟨#[]⟩]) 3 40 Tryz.underlying51 hi hz0 hz1 hz2 rfl (by decide) (.slice A' k c') k _ rfl (by exact HOY.out.alloc _) ⟨w4.heap.size,0,none⟩ 1 1 [.string pth,.bool true,.string ⟨#[]⟩] rfl rfl (fun j y h=>cellsN w4 [.string pth,.bool true,.string ⟨#[]⟩] 99 j y h) (oc_of (c:=#[.string pth,.bool true,.string ⟨#[]⟩]) rfl) (by decide) (by unfold maxLen;omega) (by omega) (by simp;omega) (w4.heap.size+1) (by simp) ?_;intro gq cap w5 hown hgrow ha hlt5;have HO5:=hid hown;have HB5:=hid ((HBY.out.alloc hsz4 _).grown hgrow (by simp;omega) (fun b hb=>(HOY.out.lt b hb).1));clear hown hgrow ha hlt5))
    go_roundw
    case rel=>exact⟨k+1,some ⟨gq,0,none⟩,cap,by omega,by go_num,rfl,hid (by rw[HS9.out,List.flatMap_append];exact HO5.out),HB5⟩
    case measure=>(simp[RowKit.intOf];omega)
   | false=>
    have HS9:=hid (show EN.take (k+1)=EN.take k++[((⟨⟨⟨nt,nr⟩,ni⟩,pth,false,bck⟩:Itm),textG L ⟨⟨nt,nr⟩,ni⟩)] by rw[HST.out];rfl)
    have HPX:=HPC.out ⟨⟨nt,nr⟩,ni⟩
    have HT4:=hid (HTX.out nt nr ni w4 (HB2.out.trans (HBY.out.mono hsz2)))
    obtain⟨TX,hTX⟩:∃X,X=textG L ⟨⟨nt,nr⟩,ni⟩:=⟨_,rfl⟩
    rw[←hTX] at HS9 HPX HT4
    have HPX:=hid HPX
    clear hTX
    have HRI:=hid (show w4.rangeAt xB 0 [.int .i64 nt,.int .i64 nr,.int .i64 ni] from range_mid (pre:=[]) (mid:=[.int .i64 nt,.int .i64 nr,.int .i64 ni]) (post:=[.string pth,.bool false,.bool bck]) (range_of_block HCY.out))
    go_upto_region 10 with(first
     |(refine wpList_load_mid rfl _ _ rfl xB 0 rfl [.int .i64 nt,.int .i64 nr,.int .i64 ni] _ HRI.out Tryz.underlying108 rfl (by kernel_rfl) ?_)
     |(go_at_call 58;refine HT9.out.mono ?_;rintro e w6 ⟨rfl,hB6⟩;have HB6:=hid (HB5.out.trans (hB6.mono HB5.out.size));have HE6:=hid ((hB6.block _ (lt_of_block HE5.out)).trans HE5.out);have e2:w6.cell? ⟨yB,2,none⟩=some (.string ⟨#[]⟩):=cell_of_row _ _ _ _ _ _ HE6.out;have f2:w6.frozen? ⟨yB,2,none⟩=false:=frozen_of_row _ _ _ _ _ HE6.out;clear hB6)
     |(go_at_call 59;refine HT4.out.mono ?_;rintro e w5 ⟨tA,tc,rfl,htl,hown5,hB5⟩;have HB5:=hid hB5;have HE5:=hid ((hB5.block _ (lt_of_block HEY.out)).trans HEY.out);have HT9:=hid (text9_any TX tA tc _ w5 htl HPX.out (ownN_rowF (z:=elt0) (f:=eltL) (fun _=>rfl) rfl hown5));clear hown5 hB5 htl))
    obtain⟨w7,hw7⟩:∃W,W=w6.setCell ⟨yB,2,none⟩ (.string (txtE TX)):=⟨_,rfl⟩
    rw[←hw7]
    have hg7:w6.grownBy w7 (some yB):=by rw[hw7];exact gby_set _ _ _
    have HE7:=hid (show w7.heap[yB]? =some (.cells #[.string pth,.bool false,.string (txtE TX)] 99 (0,0)) by rw[hw7];exact set_obj (c:=#[.string pth,.bool false,.string ⟨#[]⟩]) HE6.out 2 (.string (txtE TX)) rfl)
    have hyl:=(lt_of_block HEY.out)
    have HB7:=hid ((HBY.out.trans (HB6.out.mono hsz4)).grown hg7 (Nat.le_trans hsz4 HB6.out.size) (fun b e=>by cases e;omega))
    have HO7:=hid ((HOY.out.kept (gby_below (r:=none) HB6.out) (Classical.em _)).kept hg7 (.inr HNE.out))
    clear hw7 hg7 HB6 HE6
    have hsz7:=HB7.out.size
    go_wp2_with (first
     |(refine load_at rfl _ _ rfl yB _ _ _ rfl HE7.out Tryz.underlying99 rfl ?_ ?_;kernel_rfl)
     |(at_builtin;refine wpList_append_lies _ rfl _ _ 51 rfl w2.heap.size 99 i0 (.agg #[.string ⟨#[]⟩,.bool false,.string ⟨#[]⟩]) 3 40 Tryz.underlying51 hi hz0 hz1 hz2 rfl (by decide) (.slice A' k c') k _ rfl (by exact HO7.out.alloc _) ⟨w7.heap.size,0,none⟩ 1 1 [.string pth,.bool false,.string (txtE TX)] rfl rfl (fun j y h=>cellsN w7 [.string pth,.bool false,.string (txtE TX)] 99 j y h) (oc_of (c:=#[.string pth,.bool false,.string (txtE TX)]) rfl) (by decide) (by unfold maxLen;omega) (by omega) (by simp;omega) (w7.heap.size+1) (by simp) ?_;intro gq cap w8 hown hgrow ha hlt5;have HO8:=hid hown;have HB8:=hid ((HB7.out.alloc hsz7 _).grown hgrow (by simp;omega) (fun b hb=>(HO7.out.lt b hb).1));clear hown hgrow ha hlt5))
    go_roundw
    case rel=>exact⟨k+1,some ⟨gq,0,none⟩,cap,by omega,by go_num,rfl,hid (by rw[HS9.out,List.flatMap_append];exact HO8.out),HB8⟩
    case measure=>(simp[RowKit.intOf];omega)
  ·obtain rfl:k=IT.length:=by omega
   have i2:¬(IT.length:Int)<(IT.length:Int):=by omega
   rw[←HEL,List.take_length,HEL] at HO
   go_wp2
   go_ret
   exact⟨A',c',rfl,own_base HO.out hsz2,HB2.out.trans (HBr.out.mono hsz2)⟩
theorem ne_ent (p t:ByteArray) (d:Bool) (w:World):(binOp .neq 99 (.agg #[.string p,.bool d,.string t]) (.agg #[.string p,.bool d,.string t])).run Tryz.prog w= .ok (.bool false) w:=by
 go_simp
theorem same16_any (E:List (Itm×List Elt)) (A A2:Option Addr) (c c2:Nat) (S S2:Nat→Prop) (w:World) (hl:E.length≤1000000) (hR:RowF w S A 3 entL ent0 E) (hR2:RowF w S2 A2 3 entL ent0 E):
  Calls Tryz.prog 24 #[.slice A E.length c,.slice A2 E.length c2] w fun e w'=>e= .returned (.bool true)∧Below w.heap.size w w':=by
 have HR:=hid hR
 have HR2:=hid hR2
 clear hR hR2
 go_enter Tryz.func24,Tryz.ntmps24
 go_upto_region 4 with fail
 go_loopw [5] (fun i wr=>∃(k:Nat),k≤E.length∧i= .int .i64 k∧Hid (Below w.heap.size w wr)) (fun i _=>E.length-(RowKit.intOf i).toNat)
 case atStart=>exact⟨0,Nat.zero_le _,rfl,hid (Below.refl _ _)⟩
 case round=>
  obtain⟨k,hk,rfl,HBr⟩:=hrel
  by_cases hlt:k<E.length
  ·have i1:(0:Int)≤(k:Int):=by omega
   have i2:(k:Int)<(E.length:Int):=by omega
   obtain⟨rb,ro,rfl,-,hrb,hrange⟩:=HR.out.range (fun _=>rfl) hlt
   obtain⟨rb2,ro2,rfl,-,hrb2,hrange2⟩:=HR2.out.range (fun _=>rfl) hlt
   generalize E.getD k ent0=p at *
   obtain⟨⟨n,pth,dir,bck⟩,l⟩:=p
   generalize hT:txtE l=T at *
   have h1:=rangeB (show w.rangeAt rb (ro+k*3) [.string pth,.bool dir,.string T] by rw[←hT];exact hrange) hrb HBr.out
   have h2:=rangeB (show w.rangeAt rb2 (ro2+k*3) [.string pth,.bool dir,.string T] by rw[←hT];exact hrange2) hrb2 HBr.out
   have q0:=ne_ent pth T dir
   have y0:=cell_regrown (w:=wr) (a:=⟨rb,ro+k*3,none⟩) (v:= .string pth) (h1 0 _ rfl)
   have y1:=cell_regrown (w:=wr) (a:=⟨rb,ro+k*3+1,none⟩) (v:= .bool dir) (h1 1 _ rfl)
   have y2:=cell_regrown (w:=wr) (a:=⟨rb,ro+k*3+2,none⟩) (v:= .string T) (h1 2 _ rfl)
   have x0:=cell_regrown (w:=wr) (a:=⟨rb2,ro2+k*3,none⟩) (v:= .string pth) (h2 0 _ rfl)
   have x1:=cell_regrown (w:=wr) (a:=⟨rb2,ro2+k*3+1,none⟩) (v:= .bool dir) (h2 1 _ rfl)
   have x2:=cell_regrown (w:=wr) (a:=⟨rb2,ro2+k*3+2,none⟩) (v:= .string T) (h2 2 _ rfl)
   clear hrange hrange2 h1 h2 hT
   go_upto_region 6 with fail
   refine rqb ?_
   repeat(any_goals(first|go_big_quiet_step (fail)|quiet_step (fail)))
   refine qz fun wq hBq=> ?_
   have HBx:=hid (HBr.out.trans (hBq.mono HBr.out.size))
   go_wp2
   go_roundw
   case rel=>exact⟨k+1,by omega,by go_num,HBx⟩
   case measure=>(simp[RowKit.intOf];omega)
  ·obtain rfl:k=E.length:=by omega
   have i2:¬(E.length:Int)<(E.length:Int):=by omega
   go_wp2
   go_ret
   exact⟨rfl,HBr.out⟩
end
section
open Go.RowKit Go.Lib Go.Sort
set_option linter.unusedVariables false
theorem upto_len {α:Type} {f:Nat→List α} {b:Nat}:∀(n:Nat),(∀i,i<n→(f i).length≤b)→(upto f n).length≤n*b
 |0,_=>Nat.le_of_eq (by unfold upto;simp)
 |n+1,h=>by
  rw[upto_succ,List.length_append,Nat.succ_mul]
  have h1:=upto_len n fun i hi=>h i (by omega)
  have h2:=h n (by omega)
  omega
theorem foldI_len (N:List Plc) (V:List Gid) (f0:Nat):∀(l:List Plc) (out:List Itm),(l.foldl (stepI N V f0) out).length=out.length+l.length
 | [],out=>rfl
 |p::l,out=>by rw[List.foldl_cons,foldI_len N V f0 l,List.length_cons];unfold stepI;rw[insB_len];omega
theorem pcs_size:∀(n:Nat) (T p:ByteArray),p∈pcs n T→p.size≤T.size
 |0,T,p,h=>by cases h
 | n +1,T,p,h=>by
  simp only[pcs] at h
  split at h
  ·cases h
  ·split at h
   ·cases h
   ·rename_i cp k hr
    rcases List.mem_cons.1 h with rfl|h1
    ·rw[ByteArray.size_extract];omega
    ·have h2:=pcs_size n _ p h1
     rw[ByteArray.size_extract] at h2
     omega
theorem pcsD_size (t p:ByteArray) (h:p∈pcsD t):p.size≤t.size:=by
 unfold pcsD at h
 split at h
 ·cases h
 ·exact pcs_size _ _ _ h
theorem eltsR_pc {r:Rn} {y:Elt} (h:y∈eltsR r):y.pc.size≤r.tx.size:=by
 unfold eltsR at h
 obtain⟨k,-,rfl⟩:=List.mem_map.1 h
 show((pcsD r.tx).getD k ⟨#[]⟩).size≤_
 rw[List.getD_eq_getElem?_getD]
 cases hk:(pcsD r.tx)[k]? with
 |none=>exact Nat.zero_le _
 |some p=>exact pcsD_size _ _ (List.mem_of_getElem? hk)
theorem ordF_mem {all:List Elt} (hn:(all.map (·.id)).Nodup):∀(n:Nat) (w:List Elt) {y:Elt},y∈ordF all n w→y∈w∨y∈all
 |0,_,y,h=>by cases h
 |_+1,[],y,h=>by cases h
 | n+1,x::w,y,h=>by
  rcases List.mem_cons.1 (show y∈x::ordF all n (bhW all x.id++w) from h) with rfl|h1
  ·exact .inl (by simp)
  ·rcases ordF_mem hn n _ h1 with h2|h2
   ·rcases List.mem_append.1 h2 with h3|h3
    ·exact .inr (((bh_spec hn x.id).2 y).1 h3).1
    ·exact .inl (by simp[h3])
   ·exact .inr h2
theorem ordW_mem {all:List Elt} (hn:(all.map (·.id)).Nodup) {y:Elt} (h:y∈ordW all):y∈all:=by
 rcases ordF_mem hn _ _ h with h1|h1
 ·exact(((bh_spec hn .zero).2 y).1 h1).1
 ·exact h1
theorem ent_ok {L:List (Grp×GrX)} (h:Perm2 L L) (hl:L.length≤20) (ht:∀p∈L,∀o∈p.1.ops,o.text.size≤1000):(∀x,(runsL x L).length≤90∧(∀p∈runsL x L,p.tx.size≤1000∧0<p.el.s.t∧0≤p.el.i∧p.el.i≤1000000)∧((eltsW (runsL x L)).map (·.id)).Nodup∧(∀y∈eltsW (runsL x L),y.id≠ .zero)∧∀e∈textG L x,e.pc.size≤1000)∧(itemsG L).length≤10000:=by
 refine⟨fun x=> ?_,?_⟩
 ·have hr:∀p∈runsL x L,p.tx.size≤1000∧0<p.el.s.t∧0≤p.el.i∧p.el.i≤1000000:=fun r hr=>by
   unfold runsL at hr
   obtain⟨p,hp,hr⟩:=List.mem_flatMap.1 hr
   have hs:=(chk_right (h.chk p hp)).1
   simp only[Gst.right,Bool.and_eq_true,decide_eq_true_eq] at hs
   rcases one_run h x hp with e|⟨r2,e,e2⟩
   ·rw[e] at hr;cases hr
   ·have hr2:=hr
    rw[e,List.mem_singleton] at hr
    subst hr
    rw[e2]
    unfold opsR at hr2
    obtain⟨o,ho,rfl⟩:=List.mem_map.1 hr2
    exact⟨ht p hp o (List.mem_filter.1 ho).1,by show 0<p.1.s.t;omega,(by show(0:Int)≤0;decide),(by show(0:Int)≤1000000;decide)⟩
  have hz:∀y∈eltsW (runsL x L),∃r∈runsL x L,y∈eltsR r:=fun y hy=>by
   rw[eltsW_flat (runs_el h x)] at hy
   exact List.mem_flatMap.1 hy
  have hn:=(elts_perm (runs_el h x) (List.Perm.refl _)).1
  have hrl:=runsL_len x L h.one
  refine⟨by omega,hr,hn,fun y hy e=> ?_,fun e he=> ?_⟩
  ·obtain⟨r,h1,h2⟩:=hz y hy
   obtain⟨k,hk⟩:=eltsR_id h2
   have:=(hr r h1).2.1
   rw[hk] at e
   have h3:r.el.s=Gst.zero:=congrArg Gid.s e
   rw[h3] at this
   exact absurd this (by decide)
  ·unfold textG seenW at he
   obtain⟨r,h1,h2⟩:=hz e (ordW_mem hn (List.mem_filter.1 he).1)
   have:=(hr r h1).1
   have:=eltsR_pc h2
   omega
 ·have h0:(toldG L).length≤40:=by
   have h9:=upto_len (f:=gTo (onG L) L) (b:=2) L.length fun i hi=>by
    have h8:=upto_len (f:=oTo (onB (onG L) (L.getD i gp0).1.s) (L.getD i gp0).1.s (L.getD i gp0).1.ops) (b:=1) (L.getD i gp0).1.ops.length fun j _=>by unfold oTo;split<;>simp
    have h7:=h.one _ (getD_memF hi gp0)
    unfold gTo;omega
   unfold toldG;omega
  have h1:=placeG_len hl (fun p hp=>by have:=h.one p hp;omega) h0
  have h2:=seenP_len (placeG L) (liveG L)
  unfold itemsG itemsL
  rw[foldI_len]
  simp;omega
end
end Go.Proofs.YtkhmicndehlneaaGreatDoor
