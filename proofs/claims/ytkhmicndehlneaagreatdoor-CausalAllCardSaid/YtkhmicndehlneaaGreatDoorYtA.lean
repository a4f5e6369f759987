/- Part 27 of the walks and plain laws that this claim uses, joined. Conditions: as each theorem states. -/
import Derived.Test.YtkhmicndehlneaaGreatDoorYtz
namespace Go.Proofs.YtkhmicndehlneaaGreatDoor
set_option maxRecDepth 100000
set_option maxHeartbeats 16000000
section
open Go.RowKit Go.Lib Go.Sort
set_option linter.unusedVariables false
attribute [local go_sem ↓] Go.wp_at_zero Go.wp_at_succ
def Of16Q (HV LS:List Dt) (IT:List Itm) (w00:World) (e:Ending) (w':World):Prop:=∃(oA pA hA lA iA:Option Addr) (on oc pn pc hc lc ic:Nat),e= .returned (.agg #[.slice oA on oc,.slice pA pn pc,.slice hA HV.length hc,.slice lA LS.length lc,.slice iA IT.length ic])∧RowF w' (fun b=>w00.heap.size≤b) hA 5 dtL dt0 HV∧RowF w' (fun b=>w00.heap.size≤b) lA 5 dtL dt0 LS∧RowF w' (fun b=>w00.heap.size≤b) iA 6 itmL itm0 IT∧Below w00.heap.size w00 w'
theorem of16_any (L:List (Grp×GrX)) (A:Option Addr) (c:Nat) (S:Nat→Prop) (w00:World) (hl:L.length≤20) (hlo:∀p∈L,p.1.ops.length≤2) (hld:∀p∈L,∀o∈p.1.ops,o.dots.length≤100∧o.text.size≤1000000) (hR:RowGr w00 A L) (hG:∀p∈L,GrG w00 S p) (hck:∀p∈L,chkB p.1=true) (hnd:(L.map (·.1.s)).Nodup):
  Calls Tryz.prog 57 #[.slice A L.length c] w00 fun e w'=>Of16Q (haveL L) (lostL L) (itemsG L) w00 e w':=by
 obtain⟨iA,he,hx0,hx1,hx2⟩:=info_parts info_id
 obtain⟨iD,hd,hy0,hy1,hy2⟩:=info_parts info_dt
 obtain⟨iP,hf,hv0,hv1,hv2⟩:=info_parts info_plc
 have hb0:Below w00.heap.size w00 (w00.alloc (.cells #[.slice none 0 0,.slice none 0 0,.slice none 0 0,.slice none 0 0,.slice none 0 0] 105)):=(Below.refl _ _).alloc (Nat.le_refl _) _
 have HB0:=hid hb0
 have HC0:=hid (heap_alloc_new w00 (.cells #[.slice none 0 0,.slice none 0 0,.slice none 0 0,.slice none 0 0,.slice none 0 0] 105))
 have hR0:=hR.below hb0
 have hG0:=fun p hp=>(hG p hp).agr (Agr.below hb0)
 have HRG:=hid (refrights_any L A c S (w00.alloc (.cells #[.slice none 0 0,.slice none 0 0,.slice none 0 0,.slice none 0 0,.slice none 0 0] 105)) (by omega) hR0 hG0 (fun p hp o ho=>(hld p hp o ho).2) hck hnd)
 have HG0:=hid hG0
 have HLO:=hid hlo
 have HCK:=hid hck
 have HPN:=hid (fun p hp=>placeG_name hck (q:=p) hp)
 obtain⟨HVL,hHV⟩:∃X,X=haveL L:=⟨_,rfl⟩
 obtain⟨LSL,hLS⟩:∃X,X=lostL L:=⟨_,rfl⟩
 obtain⟨ITL,hIT⟩:∃X,X=itemsG L:=⟨_,rfl⟩
 rw[←hHV,←hLS,←hIT]
 have HHV:=hid hHV
 have HLS:=hid hLS
 have HIT:=hid hIT
 clear hHV hLS hIT
 have HLD:=hid hld
 clear hR hG hb0 hR0 hG0 hlo hld hck hnd
 obtain⟨ON,hON⟩:∃X,X=onS (L.map hdOf):=⟨_,rfl⟩
 have HON:=hid hON
 clear hON
 go_enter Tryz.func57,Tryz.ntmps57
 go_upto_region 1 with fail
 generalize hW:w00.alloc (.cells #[.slice none 0 0,.slice none 0 0,.slice none 0 0,.slice none 0 0,.slice none 0 0] 105)=w0 at *
 clear hW
 go_upto_region 2 with(go_at_call 106;refine HRG.out.mono ?_;rintro e w1 ⟨A1,c1,rfl,hown1,hB1⟩;have HR1:=hid (RowGr.own hown1);have HG1:=hid (fun p hp=>(HG0.out p hp).agr (Agr.below hB1));have HC1:=hid ((hB1.block _ (lt_of_block HC0.out)).trans HC0.out);have hcb:=Nat.lt_of_lt_of_le (lt_of_block HC0.out) hB1.size;have HB1:=hid (HB0.out.trans (hB1.mono HB0.out.size));clear hown1 hB1)
 go_upto_region 3 with fail
 have HSC:=hid (heap_alloc_new w1 (.cells #[.slice none 0 0,.slice none 0 0,.slice none 0 0,.slice none 0 0,.slice none 0 0] 105))
 have hbs:Below w1.heap.size w1 (w1.alloc (.cells #[.slice none 0 0,.slice none 0 0,.slice none 0 0,.slice none 0 0,.slice none 0 0] 105)):=(Below.refl _ _).alloc (Nat.le_refl _) _
 have HBS:=hid hbs
 have HHD:=hid (heads_any L A1 c1 (w1.alloc (.cells #[.slice none 0 0,.slice none 0 0,.slice none 0 0,.slice none 0 0,.slice none 0 0] 105)) (by omega) (HR1.out.below hbs))
 generalize hW:w1.alloc (.cells #[.slice none 0 0,.slice none 0 0,.slice none 0 0,.slice none 0 0,.slice none 0 0] 105)=w2 at *
 clear hW hbs
 go_upto_region 4 with(first
  |(go_at_call 108;refine HHD.out.mono ?_;rintro e w3 ⟨A3,c3,rfl,hown3,hB3⟩;have HS3:=hid ((hB3.block _ (lt_of_block HSC.out)).trans HSC.out);have HB3:=hid (HBS.out.trans (hB3.mono (Nat.le_of_lt (lt_of_block HSC.out))));have h23:=hB3.size;have HOC:=hid (on_any (L.map hdOf) A3 c3 _ w3 (by simp;omega) (ownN_rowF (n:=L.length) (f:=hdL) (z:=hd0) (fun _=>rfl) (by simp) hown3));clear hown3 hB3)
  |(go_at_call 107;rw[List.length_map] at HOC;refine HOC.out.mono ?_;rintro e w4 ⟨onA,onc,rfl,hown4,hB4⟩;rw[←HON.out] at hown4;rw[←HON.out];have HS4:=hid ((hB4.block _ (lt_of_block HS3.out)).trans HS3.out);have HB4:=hid (HB3.out.trans (hB4.mono (Nat.le_of_lt (lt_of_block HS3.out))));have HN4:=hid (ownN_rowF (f:=stL) (z:=Gst.zero) (fun _=>rfl) rfl hown4);have h34:=hB4.size;clear hown4 hB4;have s0:w4.cell? ⟨w1.heap.size,0,none⟩=some (.slice none 0 0):=cell_of_row _ _ _ _ _ _ HS4.out;have g0:w4.frozen? ⟨w1.heap.size,0,none⟩=false:=frozen_of_row _ _ _ _ _ HS4.out))
 obtain⟨w5,hw5⟩:∃W,W=w4.setCell ⟨w1.heap.size,0,none⟩ (.slice onA ON.length onc):=⟨_,rfl⟩
 rw[←hw5]
 have hI0:∃onb,OfI w5.heap.size w1.heap.size onb w00.heap.size onA ON (.cells #[.slice none 0 0,.slice none 0 0,.slice none 0 0,.slice none 0 0,.slice none 0 0] 105 (0,0)) (.slice onA ON.length onc) (.slice none 0 0) (.slice none 0 0) w1 w5 (.slice none 0 0) (.slice none 0 0) (.slice none 0 0) (.slice none 0 0) 0 0 0 0 ([]) ([]) ([]) ([]):=by
  obtain⟨pb,hP,hp1,hp2⟩:=HN4.out.one
  have h5:w5.heap.size=w4.heap.size:=by rw[hw5];simp[World.setCell]
  have hg:w4.grownBy w5 (some w1.heap.size):=by rw[hw5];exact gby_set _ _ _
  have hsl:=lt_of_block HSC.out
  have hs5:w5.heap[w1.heap.size]? =some (.cells #[.slice onA ON.length onc,.slice none 0 0,.slice none 0 0,.slice none 0 0,.slice none 0 0] 105 (0,0)):=by rw[hw5];exact set_obj (c:=#[.slice none 0 0,.slice none 0 0,.slice none 0 0,.slice none 0 0,.slice none 0 0]) HS4.out 0 (.slice onA ON.length onc) rfl
  have hc5:w5.heap[w00.heap.size]? =some (.cells #[.slice none 0 0,.slice none 0 0,.slice none 0 0,.slice none 0 0,.slice none 0 0] 105 (0,0)):=(hg.block _ (by omega) (fun e=>by injection e with e;omega)).trans ((HB4.out.block _ hcb).trans HC1.out)
  have hbl:=HB4.out.grown hg HB4.out.size (fun b e=>by cases e;exact Nat.le_refl _)
  by_cases h0:0<ON.length
  ·exact⟨pb,rfl,rfl,rfl,rfl,World.ownsRow_nil w5 w5.heap.size 108 3,World.ownsRow_nil w5 w5.heap.size 161 8,World.ownsRow_nil w5 w5.heap.size 163 5,World.ownsRow_nil w5 w5.heap.size 163 5,apart.nil,apart.nil,apart.nil,apart.nil,apart.nil,apart.nil,hs5,
    hP.agr (Agr.grown hg (fun g e1 e2=>by cases e1;have e2:w1.heap.size=pb:=e2;omega)),hc5,(by simp[Value.ownBlock]),(by simp[Value.ownBlock]),(by simp[Value.ownBlock]),(by simp[Value.ownBlock]),by omega,hbl,Nat.le_refl _,Nat.le_refl _,by omega,by have:=hp2 h0;omega,by omega⟩
  ·exact⟨w00.heap.size,rfl,rfl,rfl,rfl,World.ownsRow_nil w5 w5.heap.size 108 3,World.ownsRow_nil w5 w5.heap.size 161 8,World.ownsRow_nil w5 w5.heap.size 163 5,World.ownsRow_nil w5 w5.heap.size 163 5,apart.nil,apart.nil,apart.nil,apart.nil,apart.nil,apart.nil,hs5,
    (fun k hk=>absurd hk (by omega)),hc5,(by simp[Value.ownBlock]),(by simp[Value.ownBlock]),(by simp[Value.ownBlock]),(by simp[Value.ownBlock]),by omega,hbl,Nat.le_refl _,Nat.le_refl _,by omega,by omega,by omega⟩
 obtain⟨onb,hI0⟩:=hI0
 have HONL:=hid (show ON.length≤20 by have h9:=onS_len (L.map hdOf);rw[←HON.out,List.length_map] at h9;omega)
 have HI0:=hid hI0
 have h5:w4.heap.size≤w5.heap.size:=by rw[hw5];simp[World.setCell]
 clear hI0 hw5 s0 g0 HS3 HS4 HB3 HN4 HOC HHD HSC HRG HC0 HG0
 go_upto_region 7 with fail
 go_loopg [4,5,6] L.length (fun g0 a t i wr=>∃(k:Nat) (aA tA hA lA:Option Addr) (ac na tc nt hc nh lc nl:Nat) (kb:Nat) (ko:Obj),k+g0=L.length∧i= .int .i64 k∧a= .slice aA na ac∧t= .slice tA nt tc∧na≤k*2∧nt≤k*2∧nh≤k*2∧nl≤k*200∧Hid (OfI w5.heap.size w1.heap.size onb kb onA ON ko (.slice onA ON.length onc) (.slice hA nh hc) (.slice lA nl lc) w1 wr (.slice aA na ac) (.slice tA nt tc) (.slice hA nh hc) (.slice lA nl lc) na nt nh nl (upto (gAt ON L) k) (upto (gTl ON L) k) (upto (gHv ON L) k) (upto (gLs ON L) k)))
 case atStart=>exact⟨0,none,none,none,none,0,0,0,0,0,0,0,0,w00.heap.size,(.cells #[.slice none 0 0,.slice none 0 0,.slice none 0 0,.slice none 0 0,.slice none 0 0] 105 (0,0)),Nat.zero_add _,rfl,rfl,rfl,Nat.zero_le _,Nat.zero_le _,Nat.zero_le _,Nat.zero_le _,HI0⟩
 case round =>
  obtain⟨k,aA,tA,hA,lA,ac,na,tc,nt,hc,nh,lc,nl,kb,ko,hk,rfl,rfl,rfl,hna,hnt,hnh,hnl,HI⟩:=hrel
  by_cases hlt:k<L.length
  ·have i1 : (0:Int)≤(k:Int):=by omega
   have i2:(k:Int)<(L.length:Int):=by omega
   obtain⟨rb,ro,hAe,hrb,hrange⟩:=HR1.out.range hlt
   cases hAe
   obtain⟨p,hp⟩:∃p,p=L.getD k gp0:=⟨_,rfl⟩
   have hop:=(HG1.out _ (getD_memF hlt gp0)).ops
   have hol:=HLO.out _ (getD_memF hlt gp0)
   have hod:=HLD.out _ (getD_memF hlt gp0)
   rw[←hp] at hop hol hod hrange
   have st1:upto (gAt ON L) (k+1)=upto (gAt ON L) k++upto (oAt (onB ON p.1.s) p.1.s p.1.ops) p.1.ops.length:=by rw[upto_succ,hp];rfl
   have st2:upto (gTl ON L) (k+1)=upto (gTl ON L) k++upto (oTl (onB ON p.1.s) p.1.ops) p.1.ops.length:=by rw[upto_succ,hp];rfl
   have st3:upto (gHv ON L) (k+1)=upto (gHv ON L) k++upto (oHv (onB ON p.1.s) p.1.s p.1.ops) p.1.ops.length:=by rw[upto_succ,hp];rfl
   have st4:upto (gLs ON L) (k+1)=upto (gLs ON L) k++upto (oLs (onB ON p.1.s) p.1.ops) p.1.ops.length:=by rw[upto_succ,hp];rfl
   generalize upto (gAt ON L) k=AT0 at *
   generalize upto (gTl ON L) k=TL0 at *
   generalize upto (gHv ON L) k=HV0 at *
   generalize upto (gLs ON L) k=LS0 at *
   obtain⟨⟨⟨t,r⟩,n,dv,⟨ut,ur⟩,ops⟩,⟨dA,dc,oA,oc⟩⟩:=p
   obtain⟨X,hX1,hX2⟩:=hop
   have hol:ops.length≤2:=hol
   have hod:∀o∈ops,o.dots.length≤100∧o.text.size≤1000000:=hod
   obtain⟨b,hb⟩:∃b,b=onB ON ⟨t,r⟩:=⟨_,rfl⟩
   have ST1:=hid (show upto (gAt ON L) (k+1)=AT0++upto (oAt b ⟨t,r⟩ ops) ops.length by rw[hb];exact st1)
   have ST2:=hid (show upto (gTl ON L) (k+1)=TL0++upto (oTl b ops) ops.length by rw[hb];exact st2)
   have ST3:=hid (show upto (gHv ON L) (k+1)=HV0++upto (oHv b ⟨t,r⟩ ops) ops.length by rw[hb];exact st3)
   have ST4:=hid (show upto (gLs ON L) (k+1)=LS0++upto (oLs b ops) ops.length by rw[hb];exact st4)
   have HRW:=hid (fun W (hB:Below w1.heap.size w1 W)=>show W.rangeAt rb (ro+k*7) [.int .i64 t,.int .i64 r,.int .i64 n,.slice dA dv.length dc,.int .i64 ut,.int .i64 ur,.slice oA ops.length oc] from rangeB hrange hrb hB)
   have HX1:=hid hX1
   have HX2:=hid hX2
   have HOD:=hid hod
   have HRr:=hid (HRW.out wr HI.out.bl)
   have HHS:=hid (fun W (hB:Below wr.heap.size wr W)=>show Calls Tryz.prog 109 #[.slice onA ON.length onc,.agg #[.int .i64 t,.int .i64 r]] W fun e w'=>e= .returned (.bool b)∧Below W.heap.size W w' from by rw[hb];exact hasstamp_any ON onA onc ⟨t,r⟩ _ W (by have:=HONL.out;omega) (HI.out.on.below hB))
   have cs0:=cell_regrown (w:=wr) (a:=⟨w1.heap.size,0,none⟩) (v:= .slice onA ON.length onc) (crw HI.out.st)
   have y0:=cell_regrown (w:=wr) (a:=⟨rb,ro+k*7,none⟩) (v:= .int .i64 t) (HRr.out 0 _ rfl)
   have y1:=cell_regrown (w:=wr) (a:=⟨rb,ro+k*7+1,none⟩) (v:= .int .i64 r) (HRr.out 1 _ rfl)
   have cA:=fun d os=>Calls.regrown_of (HHS.out (grow (redrawn wr d) os) (below_regrown wr d os))
   clear hp hrange hrb st1 st2 st3 st4 hb hX1 hX2 hod
   go_upto_region 9 with fail
   refine rqb ?_
   repeat(any_goals(first|go_big_quiet_step (with_reducible exact cA _ _)|quiet_step (with_reducible exact cA _ _)))
   refine qz fun wq hBq=> ?_
   have HI2:=hid (HI.out.below hBq)
   clear cs0 y0 y1 cA HHS HRr HI hBq
   go_upto_region 11 with fail
   go_loopg [4,5,8] ops.length (fun g1 a t_ i wr=>∃(j:Nat) (aA tA hA lA:Option Addr) (ac na tc nt hc nh lc nl:Nat) (kb:Nat) (ko:Obj),j+g1=ops.length∧True∧i= .int .i64 j∧a= .slice aA na ac∧t_= .slice tA nt tc∧na≤k*2+j∧nt≤k*2+j∧nh≤k*2+j∧nl≤k*200+j*100∧Hid (OfI w5.heap.size w1.heap.size onb kb onA ON ko (.slice onA ON.length onc) (.slice hA nh hc) (.slice lA nl lc) w1 wr (.slice aA na ac) (.slice tA nt tc) (.slice hA nh hc) (.slice lA nl lc) na nt nh nl (AT0++upto (oAt b ⟨t,r⟩ ops) j) (TL0++upto (oTl b ops) j) (HV0++upto (oHv b ⟨t,r⟩ ops) j) (LS0++upto (oLs b ops) j)))
   case atStart=>exact⟨0,aA,tA,hA,lA,ac,na,tc,nt,hc,nh,lc,nl,kb,ko,Nat.zero_add _,trivial,rfl,rfl,rfl,hna,hnt,hnh,hnl,hid (by have h9:=HI2.out;simpa[upto] using h9)⟩
   case round=>
    clear HI2 hna hnt hnh hnl
    obtain⟨j,aA,tA,hA,lA,ac,na,tc,nt,hc,nh,lc,nl,kb9,ko9,hj,-,rfl,rfl,rfl,hna,hnt,hnh,hnl,HI⟩:=hrel
    have HRr:=hid (HRW.out wr HI.out.bl)
    have g6:wr.cell? ⟨rb,ro+k*7+6,none⟩=some (.slice oA ops.length oc):=HRr.out 6 _ rfl
    by_cases hjl:j<ops.length
    ·have j1 :(0:Int)≤(j:Int):=by omega
     have j2:(j:Int)<(ops.length:Int):=by omega
     obtain⟨ob,oo,hoA,-,hob,hoc⟩:=HX1.out j hjl
     have hor:=op_range hoc
     have hdt:=(HX2.out j hjl).dots
     have hdl:=(HOD.out _ (getD_memF hjl (opO 0 .zero))).1
     have u1:AT0++upto (oAt b ⟨t,r⟩ ops) (j+1)=AT0++upto (oAt b ⟨t,r⟩ ops) j++(if (decide ((ops.getD j (opO 0 .zero)).kind=0) || (decide ((ops.getD j (opO 0 .zero)).kind=1) && b))=true then [⟨⟨t,r⟩,(j:Int)⟩] else []):=by rw[upto_succ,←List.append_assoc];rfl
     have u2:TL0++upto (oTl b ops) (j+1)=TL0++upto (oTl b ops) j++(if (decide ((ops.getD j (opO 0 .zero)).kind=0) || (decide ((ops.getD j (opO 0 .zero)).kind=1) && b))=true then [⟨(ops.getD j (opO 0 .zero)).node,(ops.getD j (opO 0 .zero)).parent,(ops.getD j (opO 0 .zero)).name,(ops.getD j (opO 0 .zero)).dir⟩] else []):=by rw[upto_succ,←List.append_assoc];rfl
     have u3:HV0++upto (oHv b ⟨t,r⟩ ops) (j+1)=HV0++upto (oHv b ⟨t,r⟩ ops) j++(if (b && !(decide ((ops.getD j (opO 0 .zero)).kind=2)))=true then [⟨(ops.getD j (opO 0 .zero)).node,⟨t,r⟩⟩] else []):=by rw[upto_succ,←List.append_assoc];rfl
     have u4:LS0++upto (oLs b ops) (j+1)=LS0++upto (oLs b ops) j++(if b=true then (ops.getD j (opO 0 .zero)).dots.map (fun d=>(⟨(ops.getD j (opO 0 .zero)).node,d⟩:Dt)) else []):=by rw[upto_succ,←List.append_assoc];rfl
     generalize AT0++upto (oAt b ⟨t,r⟩ ops) j=AT at *
     generalize TL0++upto (oTl b ops) j=TL at *
     generalize HV0++upto (oHv b ⟨t,r⟩ ops) j=HV at *
     generalize LS0++upto (oLs b ops) j=LS at *
     generalize (ops.getD j (opO 0 .zero))=o at *
     generalize X j=x at *
     obtain⟨kd,⟨⟨jt,jr⟩,ji⟩,⟨⟨pt,pr⟩,pi⟩,nm,dd,dots,⟨⟨at_,ar⟩,ai⟩,⟨⟨et,er⟩,ei⟩,tx,elems⟩:=o
     obtain⟨sA,sc,eA,ec⟩:=x
     have hdl:dots.length≤100:=hdl
     have HDR:=hid (show RowF w1 S sA 2 stL Gst.zero dots from RowG.congr hdt (fun k j hk hj=>by
      rcases(show j=0∨j=1 by omega) with rfl|rfl<;>rfl))
     have HOR:=hid (fun W (hB:Below w1.heap.size w1 W)=>show W.rangeAt ob (oo+j*18) [.int .i64 kd,.int .i64 jt,.int .i64 jr,.int .i64 ji,.int .i64 pt,.int .i64 pr,.int .i64 pi,.string nm,.bool dd,.slice sA dots.length sc,.int .i64 at_,.int .i64 ar,.int .i64 ai,.int .i64 et,.int .i64 er,.int .i64 ei,.string tx,.slice eA elems.length ec] from rangeB hor hob hB)
     have HOw:=hid (HOR.out wr HI.out.bl)
     obtain⟨b0,hb0⟩:∃b,b=decide (kd=0):=⟨_,rfl⟩
     obtain⟨b1,hb1⟩:∃b,b=decide (kd=1):=⟨_,rfl⟩
     obtain⟨h2,hh2⟩:∃b,b= !decide (kd=2):=⟨_,rfl⟩
     have q0:(kd == 0)=b0:=by rw[hb0];rfl
     have q1:(kd == 1)=b1:=by rw[hb1];rfl
     have q2:(kd != 2)=h2:=by rw[hh2];rfl
     have hu1:=(show AT0++upto (oAt b ⟨t,r⟩ ops) (j+1)=AT++(if (b0 || (b1 && b))=true then [⟨⟨t,r⟩,(j:Int)⟩] else []) by rw[u1,hb0,hb1])
     have hu2:=(show TL0++upto (oTl b ops) (j+1)=TL++(if (b0 || (b1 && b))=true then [⟨⟨⟨jt,jr⟩,ji⟩,⟨⟨pt,pr⟩,pi⟩,nm,dd⟩] else []) by rw[u2,hb0,hb1])
     have hu3:=(show HV0++upto (oHv b ⟨t,r⟩ ops) (j+1)=HV++(if (b && h2)=true then [⟨⟨⟨jt,jr⟩,ji⟩,⟨t,r⟩⟩] else []) by rw[u3,hh2])
     have HU4:=hid (show LS0++upto (oLs b ops) (j+1)=LS++(if b=true then dots.map (fun d=>(⟨⟨⟨jt,jr⟩,ji⟩,d⟩:Dt)) else []) by rw[u4])
     cases hoA
     clear hor hob hoc hdt u1 u2 u3 u4 hb0 hb1 hh2
     go_upto_region 14 with(first
      |(refine wpList_load_mid rfl _ _ rfl ob (oo+j*18) rfl [.int .i64 kd,.int .i64 jt,.int .i64 jr,.int .i64 ji,.int .i64 pt,.int .i64 pr,.int .i64 pi,.string nm,.bool dd,.slice sA dots.length sc,.int .i64 at_,.int .i64 ar,.int .i64 ai,.int .i64 et,.int .i64 er,.int .i64 ei,.string tx,.slice eA elems.length ec] _ HOw.out Tryz.underlying125 rfl (by kernel_rfl) ?_)
      |(refine store_last rfl _ _ _ rfl _ _ _ _ rfl ?_ rfl ?_ ?_ ?_ ?_;(focus(simp;done));kernel_rfl;rfl;rfl))
     have HIn:=hid (HI.out.newk (.cells #[.int .i64 kd,.int .i64 jt,.int .i64 jr,.int .i64 ji,.int .i64 pt,.int .i64 pr,.int .i64 pi,.string nm,.bool dd,.slice sA dots.length sc,.int .i64 at_,.int .i64 ar,.int .i64 ai,.int .i64 et,.int .i64 er,.int .i64 ei,.string tx,.slice eA elems.length ec] 125))
     generalize hW:wr.alloc (.cells #[.int .i64 kd,.int .i64 jt,.int .i64 jr,.int .i64 ji,.int .i64 pt,.int .i64 pr,.int .i64 pi,.string nm,.bool dd,.slice sA dots.length sc,.int .i64 at_,.int .i64 ar,.int .i64 ai,.int .i64 et,.int .i64 er,.int .i64 ei,.string tx,.slice eA elems.length ec] 125)=W at *
     generalize hkb:wr.heap.size=kb at *
     clear hW hkb g6 HOw HI HRr
     have z0:W.cell? ⟨kb,0,none⟩=some (.int .i64 kd):=cell_of_row _ _ _ _ _ _ HIn.out.ke
     obtain⟨cc,hcc⟩:∃c,c=(b0 || (b1 && b)):=⟨_,rfl⟩
     have HCC:=hid hcc
     rw[←hcc] at hu1 hu2
     clear hcc
     obtain⟨dd2,hdd⟩:∃c,c=(b && h2):=⟨_,rfl⟩
     have HDD:=hid hdd
     rw[←hdd] at hu3
     clear hdd
     have HU1:=hid hu1
     have HU2:=hid hu2
     have HU3:=hid hu3
     clear hu1 hu2 hu3
     rw[show ∀(a:Act) (v:Value),a.put none v=a from fun _ _=>rfl]
     go_cut [59] (fun s wx=>s= .bool cc∧W=wx)
     case first=>
      cases b0<;>cases b1<;>cases b
      all_goals go_wp2
      all_goals go_meet
      all_goals exact⟨by rw[HCC.out];rfl,rfl⟩
     case rest=>
      obtain⟨rfl,rfl⟩:=hcut
      go_upto_if 59 with fail
      go_cut [4,5] (fun a t_ wx=>∃(aA tA:Option Addr) (ac na tc nt:Nat),a= .slice aA na ac∧t_= .slice tA nt tc∧na≤k*2+j+1∧nt≤k*2+j+1∧Hid (OfI w5.heap.size w1.heap.size onb kb onA ON (.cells #[.int .i64 kd,.int .i64 jt,.int .i64 jr,.int .i64 ji,.int .i64 pt,.int .i64 pr,.int .i64 pi,.string nm,.bool dd,.slice sA dots.length sc,.int .i64 at_,.int .i64 ar,.int .i64 ai,.int .i64 et,.int .i64 er,.int .i64 ei,.string tx,.slice eA elems.length ec] 125 (0,0)) (.slice onA ON.length onc) (.slice hA nh hc) (.slice lA nl lc) w1 wx (.slice aA na ac) (.slice tA nt tc) (.slice hA nh hc) (.slice lA nl lc) na nt nh nl (AT++(if cc=true then [⟨⟨t,r⟩,(j:Int)⟩] else [])) (TL++(if cc=true then [⟨⟨⟨jt,jr⟩,ji⟩,⟨⟨pt,pr⟩,pi⟩,nm,dd⟩] else [])) (HV) (LS)))
      case first=>
       cases cc with
       |false=>
        go_wp2
        go_meet
        exact⟨aA,tA,ac,na,tc,nt,rfl,rfl,by omega,by omega,hid (by have h9:=HIn.out;simpa using h9)⟩
       | true=>
        go_upto_region 15 with fail
        have HRr:=hid (HRW.out W HIn.out.bl)
        have HST:=hid (show W.rangeAt rb (ro+k*7) [.int .i64 t,.int .i64 r] from range_mid (pre:=[]) (mid:=[.int .i64 t,.int .i64 r]) (post:=[.int .i64 n,.slice dA dv.length dc,.int .i64 ut,.int .i64 ur,.slice (some ⟨ob,oo,none⟩) ops.length oc]) HRr.out)
        go_upto_region 16 with(first
         |(refine wpList_load_mid rfl _ _ rfl rb (ro+k*7) rfl [.int .i64 t,.int .i64 r] _ HST.out Tryz.underlying42 rfl (by kernel_rfl) ?_)
         |(at_builtin;have HIA:=hid (HIn.out.below (show Below W.heap.size W (W.alloc (.cells #[.int .i64 t,.int .i64 r,.int .i64 (j:Int)] 108)) from(Below.refl _ _).alloc (Nat.le_refl _) _));refine wpList_append_lies _ rfl _ _ 123 rfl w5.heap.size 108 iA (.agg #[.int .i64 0,.int .i64 0,.int .i64 0]) 3 24 Tryz.underlying123 he hx0 hx1 hx2 rfl (by decide) (.slice aA na ac) na _ rfl (by exact HIA.out.oa) ⟨W.heap.size,0,none⟩ 1 1 [.int .i64 t,.int .i64 r,.int .i64 (j:Int)] rfl rfl (fun j9 y9 h9=>cellsN W [.int .i64 t,.int .i64 r,.int .i64 (j:Int)] 108 j9 y9 h9) (oc_of (c:=#[.int .i64 t,.int .i64 r,.int .i64 (j:Int)]) rfl) (by decide) (by unfold maxLen;omega) (by omega) (by exact HIA.out.sz) (W.heap.size+1) (by simp) ?_;intro gqw6 capw6 w6 hown hgrow hat hlt5;have HIw6:=hid (HIA.out.app_a ⟨⟨t,r⟩,(j:Int)⟩ (by exact hown) hgrow (by rw[show(W.alloc (.cells #[.int .i64 t,.int .i64 r,.int .i64 (j:Int)] 108)).heap.size=W.heap.size+1 by simp];exact hat));clear hown hgrow hat hlt5 HIA))
        have HKR:=hid (show w6.rangeAt kb 0 [.int .i64 kd,.int .i64 jt,.int .i64 jr,.int .i64 ji,.int .i64 pt,.int .i64 pr,.int .i64 pi,.string nm,.bool dd,.slice sA dots.length sc,.int .i64 at_,.int .i64 ar,.int .i64 ai,.int .i64 et,.int .i64 er,.int .i64 ei,.string tx,.slice eA elems.length ec] from range_of_block HIw6.out.ke)
        have HN1:=hid (show w6.rangeAt kb 1 [.int .i64 jt,.int .i64 jr,.int .i64 ji] from range_mid (pre:=[.int .i64 kd]) (mid:=[.int .i64 jt,.int .i64 jr,.int .i64 ji]) (post:=[.int .i64 pt,.int .i64 pr,.int .i64 pi,.string nm,.bool dd,.slice sA dots.length sc,.int .i64 at_,.int .i64 ar,.int .i64 ai,.int .i64 et,.int .i64 er,.int .i64 ei,.string tx,.slice eA elems.length ec]) HKR.out)
        have HP1:=hid (show w6.rangeAt kb 4 [.int .i64 pt,.int .i64 pr,.int .i64 pi] from range_mid (pre:=[.int .i64 kd,.int .i64 jt,.int .i64 jr,.int .i64 ji]) (mid:=[.int .i64 pt,.int .i64 pr,.int .i64 pi]) (post:=[.string nm,.bool dd,.slice sA dots.length sc,.int .i64 at_,.int .i64 ar,.int .i64 ai,.int .i64 et,.int .i64 er,.int .i64 ei,.string tx,.slice eA elems.length ec]) HKR.out)
        have v7:w6.cell? ⟨kb,7,none⟩=some (.string nm):=cell_of_row _ _ _ _ _ _ HIw6.out.ke
        have v8:w6.cell? ⟨kb,8,none⟩=some (.bool dd):=cell_of_row _ _ _ _ _ _ HIw6.out.ke
        go_wp2_with (first
         |(refine wpList_load_mid rfl _ _ rfl kb (1) rfl [.int .i64 jt,.int .i64 jr,.int .i64 ji] _ HN1.out Tryz.underlying108 rfl (by kernel_rfl) ?_)
         |(refine wpList_load_mid rfl _ _ rfl kb (4) rfl [.int .i64 pt,.int .i64 pr,.int .i64 pi] _ HP1.out Tryz.underlying108 rfl (by kernel_rfl) ?_)
         |(at_builtin;have HIA:=hid (HIw6.out.below (show Below w6.heap.size w6 (w6.alloc (.cells #[.int .i64 jt,.int .i64 jr,.int .i64 ji,.int .i64 pt,.int .i64 pr,.int .i64 pi,.string nm,.bool dd] 161)) from(Below.refl _ _).alloc (Nat.le_refl _) _));refine wpList_append_lies _ rfl _ _ 101 rfl w5.heap.size 161 iP (.agg #[.int .i64 0,.int .i64 0,.int .i64 0,.int .i64 0,.int .i64 0,.int .i64 0,.string ⟨#[]⟩,.bool false]) 8 72 Tryz.underlying101 hf hv0 hv1 hv2 rfl (by decide) (.slice tA nt tc) nt _ rfl (by exact HIA.out.ot) ⟨w6.heap.size,0,none⟩ 1 1 [.int .i64 jt,.int .i64 jr,.int .i64 ji,.int .i64 pt,.int .i64 pr,.int .i64 pi,.string nm,.bool dd] rfl rfl (fun j9 y9 h9=>cellsN w6 [.int .i64 jt,.int .i64 jr,.int .i64 ji,.int .i64 pt,.int .i64 pr,.int .i64 pi,.string nm,.bool dd] 161 j9 y9 h9) (oc_of (c:=#[.int .i64 jt,.int .i64 jr,.int .i64 ji,.int .i64 pt,.int .i64 pr,.int .i64 pi,.string nm,.bool dd]) rfl) (by decide) (by unfold maxLen;omega) (by omega) (by exact HIA.out.sz) (w6.heap.size+1) (by simp) ?_;intro gqw7 capw7 w7 hown hgrow hat hlt5;have HIw7:=hid (HIA.out.app_t ⟨⟨⟨jt,jr⟩,ji⟩,⟨⟨pt,pr⟩,pi⟩,nm,dd⟩ (by exact hown) hgrow (by rw[show(w6.alloc (.cells #[.int .i64 jt,.int .i64 jr,.int .i64 ji,.int .i64 pt,.int .i64 pr,.int .i64 pi,.string nm,.bool dd] 161)).heap.size=w6.heap.size+1 by simp];exact hat));clear hown hgrow hat hlt5 HIA))
        go_meet
        exact⟨some ⟨gqw6,0,none⟩,some ⟨gqw7,0,none⟩,capw6,na+1,capw7,nt+1,rfl,rfl,by omega,by omega,hid (by have h9:=HIw7.out;simpa using h9)⟩
      case rest=>
       clear HIn hna hnt
       obtain⟨aA,tA,ac,na,tc,nt,rfl,rfl,hna,hnt,HI2⟩:=hcut
       generalize wc=W2 at *
       have z0:W2.cell? ⟨kb,0,none⟩=some (.int .i64 kd):=cell_of_row _ _ _ _ _ _ HI2.out.ke
       go_upto_region 17 with fail
       go_cut [87] (fun s wx=>s= .bool dd2∧W2=wx)
       case first=>
        cases b<;>cases h2
        all_goals go_wp2
        all_goals go_meet
        all_goals exact⟨by rw[HDD.out];rfl,rfl⟩
       case rest=>
        obtain⟨rfl,rfl⟩:=hcut
        clear z0
        go_upto_if 87 with fail
        go_cut [] (fun wx=>∃(hA:Option Addr) (hc nh:Nat),nh≤k*2+j+1∧Hid (OfI w5.heap.size w1.heap.size onb kb onA ON (.cells #[.int .i64 kd,.int .i64 jt,.int .i64 jr,.int .i64 ji,.int .i64 pt,.int .i64 pr,.int .i64 pi,.string nm,.bool dd,.slice sA dots.length sc,.int .i64 at_,.int .i64 ar,.int .i64 ai,.int .i64 et,.int .i64 er,.int .i64 ei,.string tx,.slice eA elems.length ec] 125 (0,0)) (.slice onA ON.length onc) (.slice hA nh hc) (.slice lA nl lc) w1 wx (.slice aA na ac) (.slice tA nt tc) (.slice hA nh hc) (.slice lA nl lc) na nt nh nl (AT++(if cc=true then [⟨⟨t,r⟩,(j:Int)⟩] else [])) (TL++(if cc=true then [⟨⟨⟨jt,jr⟩,ji⟩,⟨⟨pt,pr⟩,pi⟩,nm,dd⟩] else [])) (HV++(if dd2=true then [⟨⟨⟨jt,jr⟩,ji⟩,⟨t,r⟩⟩] else [])) (LS)))
        case first=>
         cases dd2 with
         |false=>
          go_wp2
          go_meet
          exact⟨hA,hc,nh,by omega,hid (by have h9:=HI2.out;simpa using h9)⟩
         | true=>
          go_upto_region 18 with fail
          have c1_:W2.cell? ⟨w1.heap.size,2,none⟩=some (.slice hA nh hc):=cell_of_row _ _ _ _ _ _ HI2.out.st
          have HIA:=hid (HI2.out.below (show Below W2.heap.size W2 (W2.alloc (.cells #[.int .i64 jt,.int .i64 jr,.int .i64 ji,.int .i64 t,.int .i64 r] 163)).drew from((Below.refl _ _).alloc (Nat.le_refl _) _).drew))
          have c2_:(W2.alloc (.cells #[.int .i64 jt,.int .i64 jr,.int .i64 ji,.int .i64 t,.int .i64 r] 163)).drew.cell? ⟨w1.heap.size,2,none⟩=some (.slice hA nh hc):=cell_of_row _ _ _ _ _ _ HIA.out.st
          have hsA:(W2.alloc (.cells #[.int .i64 jt,.int .i64 jr,.int .i64 ji,.int .i64 t,.int .i64 r] 163)).drew.heap.size=W2.heap.size+1:=by show(W2.alloc _).heap.size=_;simp
          have HNC:=hid (fun (i:Nat) (y:Value) (h:([.int .i64 jt,.int .i64 jr,.int .i64 ji,.int .i64 t,.int .i64 r]:List Value)[i]? =some y)=>cellsN W2 [.int .i64 jt,.int .i64 jr,.int .i64 ji,.int .i64 t,.int .i64 r] 163 i y h)
          have HOC:=hid (show ∀u∈([.int .i64 jt,.int .i64 jr,.int .i64 ji,.int .i64 t,.int .i64 r]:List Value),u.oneCell'=true from oc_of (c:=#[.int .i64 jt,.int .i64 jr,.int .i64 ji,.int .i64 t,.int .i64 r]) rfl)
          refine wp_region_held (S:=fun W'=>W'.heap[kb]? =some (.cells #[.int .i64 kd,.int .i64 jt,.int .i64 jr,.int .i64 ji,.int .i64 pt,.int .i64 pr,.int .i64 pi,.string nm,.bool dd,.slice sA dots.length sc,.int .i64 at_,.int .i64 ar,.int .i64 ai,.int .i64 et,.int .i64 er,.int .i64 ei,.string tx,.slice eA elems.length ec] 125 (0,0))∧W'.rangeAt rb (ro+k*7) [.int .i64 t,.int .i64 r,.int .i64 n,.slice dA dv.length dc,.int .i64 ut,.int .i64 ur,.slice (some ⟨ob,oo,none⟩) ops.length oc]) (by kernel_rfl) ?_
          try(change wpAnyH _ _ _ _ _ _ _ _ (World.drew _))
          refine tk 0 (.pointer (some ⟨w1.heap.size,2,none⟩)) ((show W2.drew.heap[kb]? =_∧W2.drew.rangeAt _ _ _ from⟨HI2.out.ke,HRW.out W2 HI2.out.bl⟩)) ?_
          go_simp
          refine tk 2 (.pointer (some ⟨kb,1,none⟩)) ((show W2.drew.heap[kb]? =_∧W2.drew.rangeAt _ _ _ from⟨HI2.out.ke,HRW.out W2 HI2.out.bl⟩)) ?_
          go_simp
          refine wpAnyH_take (i:=3) (v:= .agg #[.int .i64 jt,.int .i64 jr,.int .i64 ji]) rfl (by kernel_rfl) (by kernel_rfl) (by kernel_rfl) (fun _ _ _ h=>h) (yieldsIf_load_mid (by rfl) _ _ rfl kb (1) rfl [.int .i64 jt,.int .i64 jr,.int .i64 ji] _ (fun W' hW'=>range_mid (pre:=[]) (mid:=[.int .i64 jt,.int .i64 jr,.int .i64 ji]) (post:=[]) (range_mid (pre:=[.int .i64 kd]) (mid:=[.int .i64 jt,.int .i64 jr,.int .i64 ji]) (post:=[.int .i64 pt,.int .i64 pr,.int .i64 pi,.string nm,.bool dd,.slice sA dots.length sc,.int .i64 at_,.int .i64 ar,.int .i64 ai,.int .i64 et,.int .i64 er,.int .i64 ei,.string tx,.slice eA elems.length ec]) (range_of_block hW'.1))) Tryz.underlying108 rfl (by kernel_rfl)) ((show W2.drew.heap[kb]? =_∧W2.drew.rangeAt _ _ _ from⟨HI2.out.ke,HRW.out W2 HI2.out.bl⟩)) ?_
          go_simp
          refine tk 4 (.slice (some ⟨rb,ro,none⟩) L.length c1) ((show W2.drew.heap[kb]? =_∧W2.drew.rangeAt _ _ _ from⟨HI2.out.ke,HRW.out W2 HI2.out.bl⟩)) ?_
          go_simp
          refine tk 5 (.int .i64 (k:Int)) ((show W2.drew.heap[kb]? =_∧W2.drew.rangeAt _ _ _ from⟨HI2.out.ke,HRW.out W2 HI2.out.bl⟩)) ?_
          go_simp
          refine tk 6 (.pointer (some ⟨rb,ro+k*7,none⟩)) ((show W2.drew.heap[kb]? =_∧W2.drew.rangeAt _ _ _ from⟨HI2.out.ke,HRW.out W2 HI2.out.bl⟩)) ?_
          go_simp
          refine tk 7 (.pointer (some ⟨rb,ro+k*7,none⟩)) ((show W2.drew.heap[kb]? =_∧W2.drew.rangeAt _ _ _ from⟨HI2.out.ke,HRW.out W2 HI2.out.bl⟩)) ?_
          go_simp
          refine wpAnyH_take (i:=8) (v:= .agg #[.int .i64 t,.int .i64 r]) rfl (by kernel_rfl) (by kernel_rfl) (by kernel_rfl) (fun _ _ _ h=>h) (yieldsIf_load_mid (by rfl) _ _ rfl rb (ro+k*7) rfl [.int .i64 t,.int .i64 r] _ (fun W' hW'=>range_mid (pre:=[]) (mid:=[.int .i64 t,.int .i64 r]) (post:=[.int .i64 n,.slice dA dv.length dc,.int .i64 ut,.int .i64 ur,.slice (some ⟨ob,oo,none⟩) ops.length oc]) (hW'.2)) Tryz.underlying42 rfl (by kernel_rfl)) ((show W2.drew.heap[kb]? =_∧W2.drew.rangeAt _ _ _ from⟨HI2.out.ke,HRW.out W2 HI2.out.bl⟩)) ?_
          go_simp
          refine tk 9 (.agg #[.int .i64 jt,.int .i64 jr,.int .i64 ji,.int .i64 t,.int .i64 r]) ((show W2.drew.heap[kb]? =_∧W2.drew.rangeAt _ _ _ from⟨HI2.out.ke,HRW.out W2 HI2.out.bl⟩)) ?_
          go_simp
          refine wpAnyH_ready (rs:=[1,10]) (by kernel_rfl) (by simp) ?_
          refine AllReadyH.cons rfl (fun K hK=> ?_) (AllReadyH.cons rfl (fun K hK=> ?_) AllReadyH.nil)
          focus
           go_simp
           refine hK.out _ _ ((show W2.drew.heap[kb]? =_∧W2.drew.rangeAt _ _ _ from⟨HI2.out.ke,HRW.out W2 HI2.out.bl⟩)) (fun _=> ?_)
           clear hK K
           refine wpAnyH_ready (rs:=[10]) (by kernel_rfl) (by simp) ?_
           refine AllReadyH.cons rfl (fun K hK=> ?_) AllReadyH.nil
           go_simp
           refine hK.out _ _ (⟨HIA.out.ke,HRW.out _ HIA.out.bl⟩) (fun _=> ?_)
           clear hK K
          rotate_left
          focus
           go_simp
           refine hK.out _ _ (⟨HIA.out.ke,HRW.out _ HIA.out.bl⟩) (fun _=> ?_)
           clear hK K
           refine wpAnyH_ready (rs:=[1]) (by kernel_rfl) (by simp) ?_
           refine AllReadyH.cons rfl (fun K hK=> ?_) AllReadyH.nil
           go_simp
           refine hK.out _ _ (⟨HIA.out.ke,HRW.out _ HIA.out.bl⟩) (fun _=> ?_)
           clear hK K
          all_goals
           refine wpAnyH_ready (rs:=[11]) (by kernel_rfl) (by simp) ?_
           refine AllReadyH.cons rfl (fun K hK=> ?_) AllReadyH.nil
           refine step_append_lies _ (by rfl) _ _ 102 (by rfl) w5.heap.size 163 iD (.agg #[.int .i64 0,.int .i64 0,.int .i64 0,.int .i64 0,.int .i64 0]) 5 40 Tryz.underlying102 hd hy0 hy1 hy2 rfl (by decide) (.slice hA nh hc) nh _ (by rfl) (by exact HIA.out.oh) ⟨W2.heap.size,0,none⟩ 1 1 [.int .i64 jt,.int .i64 jr,.int .i64 ji,.int .i64 t,.int .i64 r] (by rfl) (by rfl) (by exact HNC.out) HOC.out (by decide) (by unfold maxLen;omega) (by omega) (by exact HIA.out.sz) (W2.heap.size+1) hsA ?_
           intro gq cap w6 hown1 hgrow hat hlt3
           have HI6:=hid (HIA.out.app_h ⟨⟨⟨jt,jr⟩,ji⟩,⟨t,r⟩⟩ (by exact hown1) hgrow (by rw[hsA];exact hat))
           have c3_:w6.cell? ⟨w1.heap.size,2,none⟩=some (.slice hA nh hc):=cell_of_row _ _ _ _ _ _ HI6.out.st
           have f3_:w6.frozen? ⟨w1.heap.size,2,none⟩=false:=frozen_of_row _ _ _ _ _ HI6.out.st
           have HI7:=hid (HI6.out.put 2 (.slice (some ⟨gq,0,none⟩) (nh+1) cap) rfl)
           clear hown1 hgrow hat hlt3 c1_ c2_
           refine hK.out _ _ (⟨HI6.out.ke,HRW.out _ HI6.out.bl⟩) (fun _=> ?_)
           clear hK K
           refine tk 12 (.pointer (some ⟨w1.heap.size,2,none⟩)) (⟨HI6.out.ke,HRW.out _ HI6.out.bl⟩) ?_
           go_simp
           refine wpAnyH_ready (rs:=[13]) (by kernel_rfl) (by simp) ?_
           refine AllReadyH.cons rfl (fun K hK=> ?_) AllReadyH.nil
           go_simp
           refine hK.out _ _ (⟨HI7.out.ke,HRW.out _ HI7.out.bl⟩) (fun _=> ?_)
           clear hK K
           refine wpAnyH_done (by kernel_rfl) ?_ _
           go_simp
           generalize w6.setCell ⟨w1.heap.size,2,none⟩ (.slice (some ⟨gq,0,none⟩) (nh+1) cap)=V at *
           have HI9:=hid HI7.out
           clear HI7 HI6 HIA HNC HOC hsA c3_ f3_
           go_wp2
           go_meet
           exact⟨some ⟨gq,0,none⟩,cap,nh+1,by omega,hid (by have h9:=HI9.out;simpa using h9)⟩
        case rest=>
         clear HI2 hnh
         obtain⟨hA,hc,nh,hnh,HI3⟩:=hcut
         generalize wc=W3 at *
         go_upto_region 20 with fail
         cases b with
         | true=>
          go_loopg [10] dots.length (fun g2 i wr=>∃(q:Nat) (lA:Option Addr) (lc nl:Nat),q+g2=dots.length∧i= .int .i64 q∧nl≤k*200+j*100+q∧Hid (OfI w5.heap.size w1.heap.size onb kb onA ON (.cells #[.int .i64 kd,.int .i64 jt,.int .i64 jr,.int .i64 ji,.int .i64 pt,.int .i64 pr,.int .i64 pi,.string nm,.bool dd,.slice sA dots.length sc,.int .i64 at_,.int .i64 ar,.int .i64 ai,.int .i64 et,.int .i64 er,.int .i64 ei,.string tx,.slice eA elems.length ec] 125 (0,0)) (.slice onA ON.length onc) (.slice hA nh hc) (.slice lA nl lc) w1 wr (.slice aA na ac) (.slice tA nt tc) (.slice hA nh hc) (.slice lA nl lc) na nt nh nl (AT++(if cc=true then [⟨⟨t,r⟩,(j:Int)⟩] else [])) (TL++(if cc=true then [⟨⟨⟨jt,jr⟩,ji⟩,⟨⟨pt,pr⟩,pi⟩,nm,dd⟩] else [])) (HV++(if dd2=true then [⟨⟨⟨jt,jr⟩,ji⟩,⟨t,r⟩⟩] else [])) (LS++(dots.take q).map (fun d=>(⟨⟨⟨jt,jr⟩,ji⟩,d⟩:Dt)))))
          case atStart=>exact⟨0,lA,lc,nl,by omega,rfl,by omega,hid (by have h9:=HI3.out;simpa using h9)⟩
          case round=>
           clear HI3 hnl
           obtain⟨q,lA,lc,nl,hq,rfl,hnl9,HI⟩:=hrel
           have z9:wr.cell? ⟨kb,9,none⟩=some (.slice sA dots.length sc):=cell_of_row _ _ _ _ _ _ HI.out.ke
           by_cases hql:q<dots.length
           ·have l1:(0:Int)≤(q:Int):=by omega
            have l2:(q:Int)<(dots.length:Int):=by omega
            obtain⟨db,do_,hdA,-,hdb,hdr⟩:=HDR.out.range (fun _=>rfl) hql
            have htq:(dots.take (q+1)).map (fun d=>(⟨⟨⟨jt,jr⟩,ji⟩,d⟩:Dt))=(dots.take q).map (fun d=>(⟨⟨⟨jt,jr⟩,ji⟩,d⟩:Dt))++[⟨⟨⟨jt,jr⟩,ji⟩,dots.getD q .zero⟩]:=by rw[takeD_succ hql Gst.zero,List.map_append];rfl
            generalize dots.getD q .zero=d9 at *
            obtain⟨dt,dr⟩:=d9
            have HDW:=hid (fun W (hB:Below w1.heap.size w1 W)=>show W.rangeAt db (do_+q*2) [.int .i64 dt,.int .i64 dr] from rangeB hdr hdb hB)
            have HTQ:=hid htq
            cases hdA
            clear hdb hdr htq
            go_upto_region 22 with fail
            clear z9
            have c1_:wr.cell? ⟨w1.heap.size,3,none⟩=some (.slice lA nl lc):=cell_of_row _ _ _ _ _ _ HI.out.st
            have HIA:=hid (HI.out.below (show Below wr.heap.size wr (wr.alloc (.cells #[.int .i64 jt,.int .i64 jr,.int .i64 ji,.int .i64 dt,.int .i64 dr] 163)).drew from((Below.refl _ _).alloc (Nat.le_refl _) _).drew))
            have c2_:(wr.alloc (.cells #[.int .i64 jt,.int .i64 jr,.int .i64 ji,.int .i64 dt,.int .i64 dr] 163)).drew.cell? ⟨w1.heap.size,3,none⟩=some (.slice lA nl lc):=cell_of_row _ _ _ _ _ _ HIA.out.st
            have hsA:(wr.alloc (.cells #[.int .i64 jt,.int .i64 jr,.int .i64 ji,.int .i64 dt,.int .i64 dr] 163)).drew.heap.size=wr.heap.size+1:=by show(wr.alloc _).heap.size=_;simp
            have HNC:=hid (fun (i:Nat) (y:Value) (h:([.int .i64 jt,.int .i64 jr,.int .i64 ji,.int .i64 dt,.int .i64 dr]:List Value)[i]? =some y)=>cellsN wr [.int .i64 jt,.int .i64 jr,.int .i64 ji,.int .i64 dt,.int .i64 dr] 163 i y h)
            have HOC:=hid (show ∀u∈([.int .i64 jt,.int .i64 jr,.int .i64 ji,.int .i64 dt,.int .i64 dr]:List Value),u.oneCell'=true from oc_of (c:=#[.int .i64 jt,.int .i64 jr,.int .i64 ji,.int .i64 dt,.int .i64 dr]) rfl)
            refine wp_region_held (S:=fun W'=>W'.heap[kb]? =some (.cells #[.int .i64 kd,.int .i64 jt,.int .i64 jr,.int .i64 ji,.int .i64 pt,.int .i64 pr,.int .i64 pi,.string nm,.bool dd,.slice (some ⟨db,do_,none⟩) dots.length sc,.int .i64 at_,.int .i64 ar,.int .i64 ai,.int .i64 et,.int .i64 er,.int .i64 ei,.string tx,.slice eA elems.length ec] 125 (0,0))∧W'.rangeAt db (do_+q*2) [.int .i64 dt,.int .i64 dr]) (by kernel_rfl) ?_
            try(change wpAnyH _ _ _ _ _ _ _ _ (World.drew _))
            refine tk 0 (.pointer (some ⟨w1.heap.size,3,none⟩)) ((show wr.drew.heap[kb]? =_∧wr.drew.rangeAt _ _ _ from⟨HI.out.ke,HDW.out wr HI.out.bl⟩)) ?_
            go_simp
            refine tk 2 (.pointer (some ⟨kb,1,none⟩)) ((show wr.drew.heap[kb]? =_∧wr.drew.rangeAt _ _ _ from⟨HI.out.ke,HDW.out wr HI.out.bl⟩)) ?_
            go_simp
            refine wpAnyH_take (i:=3) (v:= .agg #[.int .i64 jt,.int .i64 jr,.int .i64 ji]) rfl (by kernel_rfl) (by kernel_rfl) (by kernel_rfl) (fun _ _ _ h=>h) (yieldsIf_load_mid (by rfl) _ _ rfl kb (1) rfl [.int .i64 jt,.int .i64 jr,.int .i64 ji] _ (fun W' hW'=>range_mid (pre:=[]) (mid:=[.int .i64 jt,.int .i64 jr,.int .i64 ji]) (post:=[]) (range_mid (pre:=[.int .i64 kd]) (mid:=[.int .i64 jt,.int .i64 jr,.int .i64 ji]) (post:=[.int .i64 pt,.int .i64 pr,.int .i64 pi,.string nm,.bool dd,.slice (some ⟨db,do_,none⟩) dots.length sc,.int .i64 at_,.int .i64 ar,.int .i64 ai,.int .i64 et,.int .i64 er,.int .i64 ei,.string tx,.slice eA elems.length ec]) (range_of_block hW'.1))) Tryz.underlying108 rfl (by kernel_rfl)) ((show wr.drew.heap[kb]? =_∧wr.drew.rangeAt _ _ _ from⟨HI.out.ke,HDW.out wr HI.out.bl⟩)) ?_
            go_simp
            refine tk 4 (.pointer (some ⟨kb,9,none⟩)) ((show wr.drew.heap[kb]? =_∧wr.drew.rangeAt _ _ _ from⟨HI.out.ke,HDW.out wr HI.out.bl⟩)) ?_
            go_simp
            refine wpAnyH_take (i:=5) (v:= .slice (some ⟨db,do_,none⟩) dots.length sc) rfl (by kernel_rfl) (by kernel_rfl) (by kernel_rfl) (fun _ _ _ h=>h) (Or.inl ⟨by rfl,fun W' hW'=>by(have c_:W'.cell? ⟨kb,9,none⟩=some (.slice (some ⟨db,do_,none⟩) dots.length sc):=cell_of_row _ _ _ _ _ _ hW'.1;go_simp)⟩) ((show wr.drew.heap[kb]? =_∧wr.drew.rangeAt _ _ _ from⟨HI.out.ke,HDW.out wr HI.out.bl⟩)) ?_
            go_simp
            refine tk 6 (.int .i64 (q:Int)) ((show wr.drew.heap[kb]? =_∧wr.drew.rangeAt _ _ _ from⟨HI.out.ke,HDW.out wr HI.out.bl⟩)) ?_
            go_simp
            refine tk 7 (.pointer (some ⟨db,do_+q*2,none⟩)) ((show wr.drew.heap[kb]? =_∧wr.drew.rangeAt _ _ _ from⟨HI.out.ke,HDW.out wr HI.out.bl⟩)) ?_
            go_simp
            refine wpAnyH_take (i:=8) (v:= .agg #[.int .i64 dt,.int .i64 dr]) rfl (by kernel_rfl) (by kernel_rfl) (by kernel_rfl) (fun _ _ _ h=>h) (yieldsIf_load_mid (by rfl) _ _ rfl db (do_+q*2) rfl [.int .i64 dt,.int .i64 dr] _ (fun W' hW'=>range_mid (pre:=[]) (mid:=[.int .i64 dt,.int .i64 dr]) (post:=[]) (hW'.2)) Tryz.underlying42 rfl (by kernel_rfl)) ((show wr.drew.heap[kb]? =_∧wr.drew.rangeAt _ _ _ from⟨HI.out.ke,HDW.out wr HI.out.bl⟩)) ?_
            go_simp
            refine tk 9 (.agg #[.int .i64 jt,.int .i64 jr,.int .i64 ji,.int .i64 dt,.int .i64 dr]) ((show wr.drew.heap[kb]? =_∧wr.drew.rangeAt _ _ _ from⟨HI.out.ke,HDW.out wr HI.out.bl⟩)) ?_
            go_simp
            refine wpAnyH_ready (rs:=[1,10]) (by kernel_rfl) (by simp) ?_
            refine AllReadyH.cons rfl (fun K hK=> ?_) (AllReadyH.cons rfl (fun K hK=> ?_) AllReadyH.nil)
            focus
             go_simp
             refine hK.out _ _ ((show wr.drew.heap[kb]? =_∧wr.drew.rangeAt _ _ _ from⟨HI.out.ke,HDW.out wr HI.out.bl⟩)) (fun _=> ?_)
             clear hK K
             refine wpAnyH_ready (rs:=[10]) (by kernel_rfl) (by simp) ?_
             refine AllReadyH.cons rfl (fun K hK=> ?_) AllReadyH.nil
             go_simp
             refine hK.out _ _ (⟨HIA.out.ke,HDW.out _ HIA.out.bl⟩) (fun _=> ?_)
             clear hK K
            rotate_left
            focus
             go_simp
             refine hK.out _ _ (⟨HIA.out.ke,HDW.out _ HIA.out.bl⟩) (fun _=> ?_)
             clear hK K
             refine wpAnyH_ready (rs:=[1]) (by kernel_rfl) (by simp) ?_
             refine AllReadyH.cons rfl (fun K hK=> ?_) AllReadyH.nil
             go_simp
             refine hK.out _ _ (⟨HIA.out.ke,HDW.out _ HIA.out.bl⟩) (fun _=> ?_)
             clear hK K
            all_goals
             refine wpAnyH_ready (rs:=[11]) (by kernel_rfl) (by simp) ?_
             refine AllReadyH.cons rfl (fun K hK=> ?_) AllReadyH.nil
             refine step_append_lies _ (by rfl) _ _ 102 (by rfl) w5.heap.size 163 iD (.agg #[.int .i64 0,.int .i64 0,.int .i64 0,.int .i64 0,.int .i64 0]) 5 40 Tryz.underlying102 hd hy0 hy1 hy2 rfl (by decide) (.slice lA nl lc) nl _ (by rfl) (by exact HIA.out.ol) ⟨wr.heap.size,0,none⟩ 1 1 [.int .i64 jt,.int .i64 jr,.int .i64 ji,.int .i64 dt,.int .i64 dr] (by rfl) (by rfl) (by exact HNC.out) HOC.out (by decide) (by unfold maxLen;omega) (by omega) (by exact HIA.out.sz) (wr.heap.size+1) hsA ?_
             intro gq cap w6 hown1 hgrow hat hlt3
             have HI6:=hid (HIA.out.app_l ⟨⟨⟨jt,jr⟩,ji⟩,⟨dt,dr⟩⟩ (by exact hown1) hgrow (by rw[hsA];exact hat))
             have c3_:w6.cell? ⟨w1.heap.size,3,none⟩=some (.slice lA nl lc):=cell_of_row _ _ _ _ _ _ HI6.out.st
             have f3_:w6.frozen? ⟨w1.heap.size,3,none⟩=false:=frozen_of_row _ _ _ _ _ HI6.out.st
             have HI7:=hid (HI6.out.put 3 (.slice (some ⟨gq,0,none⟩) (nl+1) cap) rfl)
             clear hown1 hgrow hat hlt3 c1_ c2_
             refine hK.out _ _ (⟨HI6.out.ke,HDW.out _ HI6.out.bl⟩) (fun _=> ?_)
             clear hK K
             refine tk 12 (.pointer (some ⟨w1.heap.size,3,none⟩)) (⟨HI6.out.ke,HDW.out _ HI6.out.bl⟩) ?_
             go_simp
             refine wpAnyH_ready (rs:=[13]) (by kernel_rfl) (by simp) ?_
             refine AllReadyH.cons rfl (fun K hK=> ?_) AllReadyH.nil
             go_simp
             refine hK.out _ _ (⟨HI7.out.ke,HDW.out _ HI7.out.bl⟩) (fun _=> ?_)
             clear hK K
             refine wpAnyH_done (by kernel_rfl) ?_ _
             go_simp
             generalize w6.setCell ⟨w1.heap.size,3,none⟩ (.slice (some ⟨gq,0,none⟩) (nl+1) cap)=V at *
             have HI9:=hid HI7.out
             clear HI7 HI6 HIA HNC HOC hsA c3_ f3_
             go_wp2
             go_roundg (dots.length-(q+1))
             case measure=>omega
             case rel=>exact⟨q+1,some ⟨gq,0,none⟩,cap,nl+1,by omega,by go_num,by omega,hid (by rw[HTQ.out,←List.append_assoc];exact HI9.out)⟩
           ·obtain rfl:q=dots.length:=by omega
            have l2:¬(dots.length:Int)<(dots.length:Int):=by omega
            have HI4:=HI.out
            rw[List.take_length] at HI4
            have HI4:=hid (show OfI w5.heap.size w1.heap.size onb kb onA ON (.cells #[.int .i64 kd,.int .i64 jt,.int .i64 jr,.int .i64 ji,.int .i64 pt,.int .i64 pr,.int .i64 pi,.string nm,.bool dd,.slice sA dots.length sc,.int .i64 at_,.int .i64 ar,.int .i64 ai,.int .i64 et,.int .i64 er,.int .i64 ei,.string tx,.slice eA elems.length ec] 125 (0,0)) (.slice onA ON.length onc) (.slice hA nh hc) (.slice lA nl lc) w1 wr (.slice aA na ac) (.slice tA nt tc) (.slice hA nh hc) (.slice lA nl lc) na nt nh nl (AT0++upto (oAt true ⟨t,r⟩ ops) (j+1)) (TL0++upto (oTl true ops) (j+1)) (HV0++upto (oHv true ⟨t,r⟩ ops) (j+1)) (LS0++upto (oLs true ops) (j+1)) by rw[HU1.out,HU2.out,HU3.out,HU4.out];exact HI4)
            go_wp2
            go_roundg (ops.length-(j+1))
            case measure=>omega
            case rel=>exact⟨j+1,aA,tA,hA,lA,ac,na,tc,nt,hc,nh,lc,nl,kb,(.cells #[.int .i64 kd,.int .i64 jt,.int .i64 jr,.int .i64 ji,.int .i64 pt,.int .i64 pr,.int .i64 pi,.string nm,.bool dd,.slice sA dots.length sc,.int .i64 at_,.int .i64 ar,.int .i64 ai,.int .i64 et,.int .i64 er,.int .i64 ei,.string tx,.slice eA elems.length ec] 125 (0,0)),by omega,trivial,by go_num,rfl,rfl,by omega,by omega,by omega,by omega,HI4⟩
         | false=>
          have z9:W3.cell? ⟨kb,9,none⟩=some (.slice sA dots.length sc):=cell_of_row _ _ _ _ _ _ HI3.out.ke
          have HI4:=hid (show OfI w5.heap.size w1.heap.size onb kb onA ON (.cells #[.int .i64 kd,.int .i64 jt,.int .i64 jr,.int .i64 ji,.int .i64 pt,.int .i64 pr,.int .i64 pi,.string nm,.bool dd,.slice sA dots.length sc,.int .i64 at_,.int .i64 ar,.int .i64 ai,.int .i64 et,.int .i64 er,.int .i64 ei,.string tx,.slice eA elems.length ec] 125 (0,0)) (.slice onA ON.length onc) (.slice hA nh hc) (.slice lA nl lc) w1 W3 (.slice aA na ac) (.slice tA nt tc) (.slice hA nh hc) (.slice lA nl lc) na nt nh nl (AT0++upto (oAt false ⟨t,r⟩ ops) (j+1)) (TL0++upto (oTl false ops) (j+1)) (HV0++upto (oHv false ⟨t,r⟩ ops) (j+1)) (LS0++upto (oLs false ops) (j+1)) by rw[HU1.out,HU2.out,HU3.out,HU4.out];simpa using HI3.out)
          go_loopg [10] 0 (fun g2 i wr=>i= .int .i64 0∧W3=wr)
          case atStart=>exact⟨rfl,rfl⟩
          case round=>
           obtain⟨rfl,rfl⟩:=hrel
           by_cases hdl9:0<dots.length
           ·have l2:(0:Int)<(dots.length:Int):=by omega
            go_wp2
            go_roundg (ops.length-(j+1))
            case measure=>omega
            case rel=>exact⟨j+1,aA,tA,hA,lA,ac,na,tc,nt,hc,nh,lc,nl,kb,(.cells #[.int .i64 kd,.int .i64 jt,.int .i64 jr,.int .i64 ji,.int .i64 pt,.int .i64 pr,.int .i64 pi,.string nm,.bool dd,.slice sA dots.length sc,.int .i64 at_,.int .i64 ar,.int .i64 ai,.int .i64 et,.int .i64 er,.int .i64 ei,.string tx,.slice eA elems.length ec] 125 (0,0)),by omega,trivial,by go_num,rfl,rfl,by omega,by omega,by omega,by omega,HI4⟩
           ·have l2:¬(0:Int)<(dots.length:Int):=by omega
            go_wp2
            go_roundg (ops.length-(j+1))
            case measure=>omega
            case rel=>exact⟨j+1,aA,tA,hA,lA,ac,na,tc,nt,hc,nh,lc,nl,kb,(.cells #[.int .i64 kd,.int .i64 jt,.int .i64 jr,.int .i64 ji,.int .i64 pt,.int .i64 pr,.int .i64 pi,.string nm,.bool dd,.slice sA dots.length sc,.int .i64 at_,.int .i64 ar,.int .i64 ai,.int .i64 et,.int .i64 er,.int .i64 ei,.string tx,.slice eA elems.length ec] 125 (0,0)),by omega,trivial,by go_num,rfl,rfl,by omega,by omega,by omega,by omega,HI4⟩
    ·obtain rfl:j=ops.length:=by omega
     have j2:¬(ops.length:Int)<(ops.length:Int):=by omega
     have HI3:=HI.out
     rw[←ST1.out,←ST2.out,←ST3.out,←ST4.out] at HI3
     have HI3:=hid HI3
     go_wp2
     go_roundg (L.length-(k+1))
     case measure=>omega
     case rel=>exact⟨k+1,aA,tA,hA,lA,ac,na,tc,nt,hc,nh,lc,nl,kb9,ko9,by omega,by go_num,rfl,rfl,by omega,by omega,by omega,by omega,HI3⟩
  ·obtain rfl:k=L.length:=by omega
   have i2:¬(L.length:Int)<(L.length:Int):=by omega
   have HC1r:=hid ((HI.out.bl.block _ hcb).trans HC1.out)
   obtain⟨T,hT⟩:∃T,T=toldG L:=⟨_,rfl⟩
   have HT:=hid hT
   have hONG:ON=onG L:=HON.out
   have HI9:=HI.out
   rw[show upto (gAt ON L) L.length=T.map (·.a) by rw[hT,hONG];exact(gTo_a _ _ _).symm,show upto (gTl ON L) L.length=T.map (·.p) by rw[hT,hONG];exact(gTo_p _ _ _).symm,show upto (gHv ON L) L.length=HVL by rw[hONG];exact HHV.out.symm,show upto (gLs ON L) L.length=LSL by rw[hONG];exact HLS.out.symm] at HI9
   obtain rfl:na=T.length:=by have:=HI9.ea;simpa using this
   obtain rfl:nt=T.length:=by have:=HI9.et;simpa using this
   obtain rfl:nh=HVL.length:=HI9.eh
   obtain rfl:nl=LSL.length:=HI9.el
   have HRA:=hid (ownN_rowF (f:=idL) (z:=Gid.zero) (fun _=>rfl) (by simp) HI9.oa)
   have HRT:=hid (ownN_rowF (f:=plcL) (z:=plc0) (fun _=>rfl) (by simp) HI9.ot)
   have HRH:=hid (ownN_rowF (f:=dtL) (z:=dt0) (fun _=>rfl) rfl HI9.oh)
   have HRL:=hid (ownN_rowF (f:=dtL) (z:=dt0) (fun _=>rfl) rfl HI9.ol)
   have HST:=hid HI9.st
   have HBL:=hid HI9.bl
   have hws:=HI9.s2
   have hTL:T.length≤40:=by omega
   have HTG:=hid (show(toldG L).length≤40 by rw[←hT];exact hTL)
   have hvl:HVL.length≤100000:=by omega
   have hll:LSL.length≤100000:=by omega
   have HPL:=hid (show madeL L (replayL T)=placeG L by rw[hT];rfl)
   have hpl:(placeG L).length≤1600:=placeG_len hl HLO.out HTG.out
   have hrl:=replayL_len T
   have HRP:=hid (replay_any T aA tA ac tc _ _ wr (by omega) HRA.out HRT.out)
   have HLV:=hid (fun W (hB:Below wr.heap.size wr W)=>live_any HVL LSL hA lA hc lc _ _ W hvl hll (HRH.out.below hB) (HRL.out.below hB))
   have HMD:=hid (fun W (hB:Below wr.heap.size wr W) pA pc S2 (hP:RowF W S2 pA 8 plcL plc0 (replayL T))=>made_any L A1 c1 (replayL T) pA pc S S2 W (by omega) (fun p hp=>Nat.le_trans (HLO.out p hp) (by decide)) (by omega) (HR1.out.below (HBL.out.trans (hB.mono HBL.out.size))) (fun p hp=>(HG1.out p hp).agr (Agr.below (HBL.out.trans (hB.mono HBL.out.size)))) hP)
   rw[HPL.out] at HMD
   have HIM:=hid (fun W qA qc vA vc S S2 (hP:RowF W S qA 8 plcL plc0 (placeG L)) (hV:RowF W S2 vA 3 idL Gid.zero (liveL LSL HVL)) (hvv:(liveL LSL HVL).length≤100000)=>items15_any (placeG L) qA qc (liveL LSL HVL) vA vc (placeG L).length S S2 W (by omega) hvv (fun p hp=>Nat.le_trans (HPN.out p hp) (by decide)) (by rw[HHV.out,HLS.out];exact items_ok L) (by omega) hP hV)
   have HIE:=hid (show itemsL (placeG L).length (placeG L) (liveL LSL HVL)=ITL by rw[HHV.out,HLS.out,HIT.out];rfl)
   have hvv:(liveL LSL HVL).length≤100000:=by have:=liveL_len LSL HVL [];simp at this;unfold liveL;omega
   rw[HIE.out] at HIM
   generalize hPL:placeG L=PLL at *
   clear HI HI9 hT hONG hPL HRA HRT hna hnt hnl hnh
   go_upto_region 24 with(first
    |(go_at_call 111;refine HRP.out.mono ?_;rintro e w6 ⟨pA,pc,rfl,hown6,hB6⟩;have HB6:=hid hB6;have HP6:=hid (ownN_rowF (f:=plcL) (z:=plc0) (fun _=>rfl) rfl hown6);clear hown6 hB6)
    |(go_at_call 110;refine(HMD.out w6 HB6.out pA pc _ HP6.out).mono ?_;rintro e w7 ⟨qA,qc,rfl,hown7,hB7⟩;have HB7:=hid (HB6.out.trans (hB7.mono HB6.out.size));have HP7:=hid (ownN_rowF (f:=plcL) (z:=plc0) (fun _=>rfl) rfl hown7);have h67:=HB6.out.size;have h77:=HB7.out.size;have HS7:=hid ((HB7.out.block _ (lt_of_block HST.out)).trans HST.out);have s1:w7.cell? ⟨w1.heap.size,1,none⟩=some (.slice none 0 0):=cell_of_row _ _ _ _ _ _ HS7.out;have g1:w7.frozen? ⟨w1.heap.size,1,none⟩=false:=frozen_of_row _ _ _ _ _ HS7.out;clear hown7 hB7))
   obtain⟨w8,hw8⟩:∃W,W=w7.setCell ⟨w1.heap.size,1,none⟩ (.slice qA PLL.length qc):=⟨_,rfl⟩
   rw[←hw8]
   have hg8:w7.grownBy w8 (some w1.heap.size):=by rw[hw8];exact gby_set _ _ _
   have HS8:=hid (show w8.heap[w1.heap.size]? =some (.cells #[.slice onA ON.length onc,.slice qA PLL.length qc,.slice hA HVL.length hc,.slice lA LSL.length lc,.slice none 0 0] 105 (0,0)) by rw[hw8];exact set_obj (c:=#[.slice onA ON.length onc,.slice none 0 0,.slice hA HVL.length hc,.slice lA LSL.length lc,.slice none 0 0]) HS7.out 1 _ rfl)
   have hsb:=lt_of_block HST.out
   have h78:=hg8.size
   have HB8:=hid (show Below w1.heap.size w1 w8 from(HBL.out.trans (HB7.out.mono HBL.out.size)).grown hg8 (by have:=HBL.out.size;omega) (fun b e=>by cases e;exact Nat.le_refl _))
   have HAG:=hid (show Agr (fun b=>w5.heap.size≤b) wr w8 from(Agr.below HB7.out).trans (Agr.grown hg8 fun g e1 e2=>by cases e1;have e2:w5.heap.size≤w1.heap.size:=e2;omega))
   have HH8:=hid (HRH.out.agr HAG.out)
   have HL8:=hid (HRL.out.agr HAG.out)
   have HP8:=hid (HP7.out.agr (Agr.grown hg8 fun g e1 e2=>by cases e1;have e2:w6.heap.size≤w1.heap.size:=e2;omega))
   have HC8:=hid ((hg8.block _ (by omega) (fun e=>by injection e with e;omega)).trans ((HB7.out.block _ (by have:=HBL.out.size;omega)).trans HC1r.out))
   have HLV8:=hid (fun W (hB:Below w8.heap.size w8 W)=>live_any HVL LSL hA lA hc lc _ _ W hvl hll (HH8.out.below hB) (HL8.out.below hB))
   clear hw8 s1 g1 HS7 HLV HRP HMD hg8
   refine wp_region_held (S:=fun W'=>W'.cell? ⟨w1.heap.size,1,none⟩=some (.slice qA PLL.length qc)∧W'.cell? ⟨w1.heap.size,2,none⟩=some (.slice hA HVL.length hc)∧W'.cell? ⟨w1.heap.size,3,none⟩=some (.slice lA LSL.length lc)) (by kernel_rfl) ?_
   try(change wpAnyH _ _ _ _ _ _ _ _ (World.drew _))
   refine tk 0 (.pointer (some ⟨w1.heap.size,1,none⟩)) ((show w8.drew.cell? _=_∧w8.drew.cell? _=_∧w8.drew.cell? _=_ from⟨cell_of_row _ _ _ _ _ _ HS8.out,cell_of_row _ _ _ _ _ _ HS8.out,cell_of_row _ _ _ _ _ _ HS8.out⟩)) ?_
   go_simp
   refine wpAnyH_take (i:=1) (v:= .slice qA PLL.length qc) rfl (by kernel_rfl) (by kernel_rfl) (by kernel_rfl) (fun _ _ _ h=>h) (Or.inl ⟨by rfl,fun W' hW'=>by(have c_:W'.cell? ⟨w1.heap.size,1,none⟩=some (.slice qA PLL.length qc):=hW'.1;go_simp)⟩) ((show w8.drew.cell? _=_∧w8.drew.cell? _=_∧w8.drew.cell? _=_ from⟨cell_of_row _ _ _ _ _ _ HS8.out,cell_of_row _ _ _ _ _ _ HS8.out,cell_of_row _ _ _ _ _ _ HS8.out⟩)) ?_
   go_simp
   refine tk 2 (.pointer (some ⟨w1.heap.size,2,none⟩)) ((show w8.drew.cell? _=_∧w8.drew.cell? _=_∧w8.drew.cell? _=_ from⟨cell_of_row _ _ _ _ _ _ HS8.out,cell_of_row _ _ _ _ _ _ HS8.out,cell_of_row _ _ _ _ _ _ HS8.out⟩)) ?_
   go_simp
   refine wpAnyH_take (i:=3) (v:= .slice hA HVL.length hc) rfl (by kernel_rfl) (by kernel_rfl) (by kernel_rfl) (fun _ _ _ h=>h) (Or.inl ⟨by rfl,fun W' hW'=>by(have c_:W'.cell? ⟨w1.heap.size,2,none⟩=some (.slice hA HVL.length hc):=hW'.2.1;go_simp)⟩) ((show w8.drew.cell? _=_∧w8.drew.cell? _=_∧w8.drew.cell? _=_ from⟨cell_of_row _ _ _ _ _ _ HS8.out,cell_of_row _ _ _ _ _ _ HS8.out,cell_of_row _ _ _ _ _ _ HS8.out⟩)) ?_
   go_simp
   refine tk 4 (.pointer (some ⟨w1.heap.size,3,none⟩)) ((show w8.drew.cell? _=_∧w8.drew.cell? _=_∧w8.drew.cell? _=_ from⟨cell_of_row _ _ _ _ _ _ HS8.out,cell_of_row _ _ _ _ _ _ HS8.out,cell_of_row _ _ _ _ _ _ HS8.out⟩)) ?_
   go_simp
   refine wpAnyH_take (i:=5) (v:= .slice lA LSL.length lc) rfl (by kernel_rfl) (by kernel_rfl) (by kernel_rfl) (fun _ _ _ h=>h) (Or.inl ⟨by rfl,fun W' hW'=>by(have c_:W'.cell? ⟨w1.heap.size,3,none⟩=some (.slice lA LSL.length lc):=hW'.2.2;go_simp)⟩) ((show w8.drew.cell? _=_∧w8.drew.cell? _=_∧w8.drew.cell? _=_ from⟨cell_of_row _ _ _ _ _ _ HS8.out,cell_of_row _ _ _ _ _ _ HS8.out,cell_of_row _ _ _ _ _ _ HS8.out⟩)) ?_
   go_simp
   refine wpAnyH_ready (rs:=[6]) (by kernel_rfl) (by simp) ?_
   refine AllReadyH.cons rfl (fun K hK=> ?_) AllReadyH.nil
   go_simp
   go_at_call 113
   refine(HLV8.out w8.drew ((Below.refl _ _).drew)).mono ?_
   rintro e w9 ⟨vA,vc,rfl,hown9,hB9⟩
   have HB9:=hid (show Below w8.heap.size w8 w9 from((Below.refl w8.heap.size w8).drew).trans hB9)
   have HV9:=hid (ownN_rowF (f:=idL) (z:=Gid.zero) (fun _=>rfl) rfl hown9)
   have HS9:=hid ((HB9.out.block _ (lt_of_block HS8.out)).trans HS8.out)
   clear hown9 hB9
   refine hK.out _ _ (⟨cell_of_row _ _ _ _ _ _ HS9.out,cell_of_row _ _ _ _ _ _ HS9.out,cell_of_row _ _ _ _ _ _ HS9.out⟩) (fun _=> ?_)
   clear hK K
   refine wpAnyH_ready (rs:=[7]) (by kernel_rfl) (by simp) ?_
   refine AllReadyH.cons rfl (fun K hK=> ?_) AllReadyH.nil
   go_simp
   go_at_call 112
   refine(HIM.out w9 qA qc vA vc _ _ (HP8.out.below HB9.out) HV9.out hvv).mono ?_
   rintro e w10 ⟨iA,ic,rfl,hown10,hB10⟩
   have HBX:=hid (HB9.out.trans (hB10.mono HB9.out.size))
   have HI10:=hid (ownN_rowF (f:=itmL) (z:=itm0) (fun _=>rfl) rfl hown10)
   have HS10:=hid ((HBX.out.block _ (lt_of_block HS8.out)).trans HS8.out)
   have h89:=HB9.out.size
   clear hown10 hB10
   refine hK.out _ _ (⟨cell_of_row _ _ _ _ _ _ HS10.out,cell_of_row _ _ _ _ _ _ HS10.out,cell_of_row _ _ _ _ _ _ HS10.out⟩) (fun _=> ?_)
   clear hK K
   have c4_:w10.cell? ⟨w1.heap.size,4,none⟩=some (.slice none 0 0):=cell_of_row _ _ _ _ _ _ HS10.out
   have f4_:w10.frozen? ⟨w1.heap.size,4,none⟩=false:=frozen_of_row _ _ _ _ _ HS10.out
   obtain⟨V,hV⟩:∃W,W=w10.setCell ⟨w1.heap.size,4,none⟩ (.slice iA ITL.length ic):=⟨_,rfl⟩
   have HV:=hid hV
   have hgV:w10.grownBy V (some w1.heap.size):=by rw[hV];exact gby_set _ _ _
   have HSV:=hid (show V.heap[w1.heap.size]? =some (.cells #[.slice onA ON.length onc,.slice qA PLL.length qc,.slice hA HVL.length hc,.slice lA LSL.length lc,.slice iA ITL.length ic] 105 (0,0)) by rw[hV];exact set_obj (c:=#[.slice onA ON.length onc,.slice qA PLL.length qc,.slice hA HVL.length hc,.slice lA LSL.length lc,.slice none 0 0]) HS10.out 4 _ rfl)
   clear hV
   refine tk 8 (.pointer (some ⟨w1.heap.size,4,none⟩)) (⟨cell_of_row _ _ _ _ _ _ HS10.out,cell_of_row _ _ _ _ _ _ HS10.out,cell_of_row _ _ _ _ _ _ HS10.out⟩) ?_
   go_simp
   refine wpAnyH_ready (rs:=[9]) (by kernel_rfl) (by simp) ?_
   refine AllReadyH.cons rfl (fun K hK=> ?_) AllReadyH.nil
   go_simp
   rw[←HV.out]
   refine hK.out _ _ (⟨cell_of_row _ _ _ _ _ _ HSV.out,cell_of_row _ _ _ _ _ _ HSV.out,cell_of_row _ _ _ _ _ _ HSV.out⟩) (fun _=> ?_)
   clear hK K
   refine wpAnyH_done (by kernel_rfl) ?_ _
   go_simp
   have h9x:=HBX.out.size
   have hvs:=hgV.size
   have HCV:=hid ((hgV.block _ (by omega) (fun e=>by injection e with e;omega)).trans ((HBX.out.block _ (by omega)).trans HC8.out))
   have HAV:=hid (show Agr (fun b=>w5.heap.size≤b) w8 V from(Agr.below HBX.out).trans (Agr.grown hgV fun g e1 e2=>by cases e1;have e2:w5.heap.size≤w1.heap.size:=e2;omega))
   have HHV9:=hid (HH8.out.agr HAV.out)
   have HLV9:=hid (HL8.out.agr HAV.out)
   have HIV:=hid (HI10.out.agr (Agr.grown hgV fun g e1 e2=>by cases e1;have e2:w9.heap.size≤w1.heap.size:=e2;omega))
   have HBV:=hid (show Below w1.heap.size w1 V from(HB8.out.trans (HBX.out.mono (by have:=HB8.out.size;omega))).grown hgV (by have:=HB8.out.size;omega) (fun b e=>by cases e;exact Nat.le_refl _))
   obtain⟨V2,hV2⟩:∃W,W=V.setRow w00.heap.size #[.slice onA ON.length onc,.slice qA PLL.length qc,.slice hA HVL.length hc,.slice lA LSL.length lc,.slice iA ITL.length ic]:=⟨_,rfl⟩
   have HV2:=hid hV2
   have hg2:V.grownBy V2 (some w00.heap.size):=by rw[hV2];exact gby_setRow _ _ _
   have HC2:=hid (show V2.heap[w00.heap.size]? =some (.cells #[.slice onA ON.length onc,.slice qA PLL.length qc,.slice hA HVL.length hc,.slice lA LSL.length lc,.slice iA ITL.length ic] 105 (0,0)) by rw[hV2];exact heap_setRow_same _ HCV.out)
   have HALL:=hid (show(#[.slice onA ON.length onc,.slice qA PLL.length qc,.slice hA HVL.length hc,.slice lA LSL.length lc,.slice iA ITL.length ic]:Array Value).toList.all (·.oneCell')=true by rfl)
   have HH2:=hid (show RowF V2 (fun b=>w00.heap.size≤b) hA 5 dtL dt0 HVL from(HHV9.out.agr (Agr.grown hg2 fun g e1 e2=>by cases e1;have e2:w5.heap.size≤w00.heap.size:=e2;omega)).sub fun b _ hb=>by have hb:w5.heap.size≤b:=hb;omega)
   have HL2:=hid (show RowF V2 (fun b=>w00.heap.size≤b) lA 5 dtL dt0 LSL from(HLV9.out.agr (Agr.grown hg2 fun g e1 e2=>by cases e1;have e2:w5.heap.size≤w00.heap.size:=e2;omega)).sub fun b _ hb=>by have hb:w5.heap.size≤b:=hb;omega)
   have HI2:=hid (show RowF V2 (fun b=>w00.heap.size≤b) iA 6 itmL itm0 ITL from(HIV.out.agr (Agr.grown hg2 fun g e1 e2=>by cases e1;have e2:w9.heap.size≤w00.heap.size:=e2;omega)).sub fun b _ hb=>by have hb:w9.heap.size≤b:=hb;omega)
   have HB2:=hid (show Below w00.heap.size w00 V2 from((HB1.out.trans (HBV.out.mono HB1.out.size))).grown hg2 (by have:=HB1.out.size;have:=HBV.out.size;omega) (fun b e=>by cases e;exact Nat.le_refl _))
   clear hV2 hgV hg2 HAV
   go_wp2_with (first
    |(refine load_at rfl _ _ rfl w1.heap.size _ _ _ rfl HSV.out Tryz.underlying105 rfl ?_ ?_;kernel_rfl)
    |(refine store_at rfl _ _ _ rfl w00.heap.size 105 #[.slice none 0 0,.slice none 0 0,.slice none 0 0,.slice none 0 0,.slice none 0 0] #[.slice onA ON.length onc,.slice qA PLL.length qc,.slice hA HVL.length hc,.slice lA LSL.length lc,.slice iA ITL.length ic] rfl rfl HCV.out (by kernel_rfl) rfl HALL.out ?_;rw[←HV2.out]))
   try simp only[Exit.inBlock,Exit.then]
   refine bodyPost_ret (results_cell_row rfl _ _ w00.heap.size _ _ (0,0) _ rfl HC2.out Tryz.underlying105 rfl (by kernel_rfl)) rfl ?_
   exact⟨_,_,_,_,_,_,_,_,_,_,_,_,rfl,HH2.out,HL2.out,HI2.out,HB2.out⟩
end
end Go.Proofs.YtkhmicndehlneaaGreatDoor
