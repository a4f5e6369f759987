/- Part 24 of the walks and plain laws that this claim uses, joined. Conditions: as each theorem states. -/
import Derived.Test.YtkhmicndehlneaaGreatDoorYbw
namespace Go.Proofs.YtkhmicndehlneaaGreatDoor
set_option maxRecDepth 100000
set_option maxHeartbeats 16000000
set_option linter.unusedVariables false
section
open Go.RowKit Go.Lib Go.Sort
attribute [local go_sem ↓] Go.wp_at_zero Go.wp_at_succ
def Of16Q (HV LS:List Dt) (IT:List Itm) (w00:World) (e:Ending) (w':World):Prop:=∃(oA pA hA lA iA:Option Addr) (on oc pn pc hc lc ic:Nat),e= .returned (.agg #[.slice oA on oc,.slice pA pn pc,.slice hA HV.length hc,.slice lA LS.length lc,.slice iA IT.length ic])∧RowF w' (λb=>w00.heap.size<=b) hA 5 dtL dt0 HV∧RowF w' (λb=>w00.heap.size<=b) lA 5 dtL dt0 LS∧RowF w' (λb=>w00.heap.size<=b) iA 6 itmL itm0 IT∧Below w00.heap.size w00 w'
theorem of16_any (L:List (Grp×GrX)) (A:Option Addr) (c:Nat) (S:Nat→Prop) (w00:World) (hl:L.length≤20) (hlo:∀p∈L,p.1.ops.length≤2) (hld:∀p∈L,∀o∈p.1.ops,o.dots.length≤100∧o.text.size≤1000000) (hR:RowGr w00 A L) (hG:∀p∈L,GrG w00 S p) (hck:∀p∈L,chkB p.1=true) (hnd:(L.map (·.1.s)).Nodup):
  Calls Tryz.prog 57 #[.slice A L.length c] w00 fun e w'=>Of16Q (jL L) (jK L) (itemsG L) w00 e w':=by
 obtain⟨iA,he,d1,d2,d3⟩:=bD info_id
 obtain⟨iD,hd,cE,cF,cG⟩:=bD info_dt
 obtain⟨iP,hf,d4,d5,d6⟩:=bD info_plc
 have aE:Below w00.heap.size w00 (w00.alloc (.cells #[.slice none 0 0,.slice none 0 0,.slice none 0 0,.slice none 0 0,.slice none 0 0] 105)):=(ag _ _).alloc (aa _) _
 have cH:=hid aE
 have bx:=hid (am w00 (.cells #[.slice none 0 0,.slice none 0 0,.slice none 0 0,.slice none 0 0,.slice none 0 0] 105))
 have cI:=hR.below aE
 have b2:=fun p hp=>(hG p hp).agr (Agr.below aE)
 have cJ:=hid (refrights_any L A c S (w00.alloc (.cells #[.slice none 0 0,.slice none 0 0,.slice none 0 0,.slice none 0 0,.slice none 0 0] 105)) (by omega) cI b2 (fun p hp o ho=>(hld p hp o ho).2) hck hnd)
 have cK:=hid b2
 have b3:=hid hlo
 have e0:=hid hck
 have d7:=hid (fun p hp=>placeG_name hck (q:=p) hp)
 obtain⟨ab,b4⟩:∃X,X=jL L:=⟨_,rfl⟩
 obtain⟨ad,b5⟩:∃X,X=jK L:=⟨_,rfl⟩
 obtain⟨aO,b6⟩:∃X,X=itemsG L:=⟨_,rfl⟩
 rw[←b4,←b5,←b6]
 have b7:=hid b4
 have b8:=hid b5
 have d8:=hid b6
 clear b4 b5 b6
 have ea:=hid hld
 clear hR hG aE cI b2 hlo hld hck hnd
 obtain⟨D,cL⟩:∃X,X=onS (L.map hdOf):=⟨_,rfl⟩
 have bz:=hid cL
 clear cL
 go_enter Tryz.func57,Tryz.ntmps57
 go_upto_region 1 with fail
 generalize hW:w00.alloc (.cells #[.slice none 0 0,.slice none 0 0,.slice none 0 0,.slice none 0 0,.slice none 0 0] 105)=w0 at *
 clear hW
 go_upto_region 2 with(go_at_call 106;refine cJ.out.mono ?_;rintro e l ⟨A1,c1,rfl,av,bh⟩;have b9:=hid (RowGr.own av);have cM:=hid (fun p hp=>(cK.out p hp).agr (Agr.below bh));have cN:=hid ((bh.block _ (lt_of_block bx.out)).trans bx.out);have cO:=bC (lt_of_block bx.out) bh.size;have ca:=hid (cH.out.trans (bh.mono cH.out.size));clear av bh)
 go_upto_region 3 with fail
 have bi:=hid (am l (.cells #[.slice none 0 0,.slice none 0 0,.slice none 0 0,.slice none 0 0,.slice none 0 0] 105))
 have ce:Below l.heap.size l (l.alloc (.cells #[.slice none 0 0,.slice none 0 0,.slice none 0 0,.slice none 0 0,.slice none 0 0] 105)):=(ag _ _).alloc (aa _) _
 have eb:=hid ce
 have cP:=hid (heads_any L A1 c1 (l.alloc (.cells #[.slice none 0 0,.slice none 0 0,.slice none 0 0,.slice none 0 0,.slice none 0 0] 105)) (by omega) (b9.out.below ce))
 generalize hW:l.alloc (.cells #[.slice none 0 0,.slice none 0 0,.slice none 0 0,.slice none 0 0,.slice none 0 0] 105)=w2 at *
 clear hW ce
 go_upto_region 4 with(first
  |(go_at_call 108;refine cP.out.mono ?_;rintro e w3 ⟨A3,c3,rfl,bA,bF⟩;have bG:=hid ((bF.block _ (lt_of_block bi.out)).trans bi.out);have cQ:=hid (eb.out.trans (bF.mono (Nat.le_of_lt (lt_of_block bi.out))));have e3:=bF.size;have aH:=hid (on_any (L.map hdOf) A3 c3 _ w3 (by simp;omega) (ct (n:=L.length) (f:=hdL) (z:=hd0) (fun _=>rfl) (by simp) bA));clear bA bF)
  |(go_at_call 107;rw[aQ] at aH;refine aH.out.mono ?_;rintro e w4 ⟨H,ae,rfl,bd,bH⟩;rw[←bz.out] at bd;rw[←bz.out];have bI:=hid ((bH.block _ (lt_of_block bG.out)).trans bG.out);have cf:=hid (cQ.out.trans (bH.mono (Nat.le_of_lt (lt_of_block bG.out))));have cR:=hid (ct (f:=stL) (z:=Gst.zero) (fun _=>rfl) rfl bd);have e4:=bH.size;clear bd bH;have s0:w4.cell? ⟨l.heap.size,0,none⟩=some (.slice none 0 0):=aD _ _ _ _ _ _ bI.out;have g0:w4.frozen? ⟨l.heap.size,0,none⟩=false:=aW _ _ _ _ _ bI.out))
 obtain⟨R,a7⟩:∃W,W=w4.setCell ⟨l.heap.size,0,none⟩ (.slice H D.length ae):=⟨_,rfl⟩
 rw[←a7]
 have bJ:∃aI,OfI R.heap.size l.heap.size aI w00.heap.size H D (.cells #[.slice none 0 0,.slice none 0 0,.slice none 0 0,.slice none 0 0,.slice none 0 0] 105 (0,0)) (.slice H D.length ae) (.slice none 0 0) (.slice none 0 0) l R (.slice none 0 0) (.slice none 0 0) (.slice none 0 0) (.slice none 0 0) 0 0 0 0 ([]) ([]) ([]) ([]):=by
  obtain⟨pb,hP,e5,ed⟩:=cR.out.one
  have h5:R.heap.size=w4.heap.size:=by rw[a7];simp[World.setCell]
  have hg:w4.grownBy R (some l.heap.size):=by rw[a7];exact eF _ _ _
  have e6:=lt_of_block bi.out
  have cS:R.heap[l.heap.size]? =some (.cells #[.slice H D.length ae,.slice none 0 0,.slice none 0 0,.slice none 0 0,.slice none 0 0] 105 (0,0)):=by rw[a7];exact gI (c:=#[.slice none 0 0,.slice none 0 0,.slice none 0 0,.slice none 0 0,.slice none 0 0]) bI.out 0 (.slice H D.length ae) rfl
  have cT:R.heap[w00.heap.size]? =some (.cells #[.slice none 0 0,.slice none 0 0,.slice none 0 0,.slice none 0 0,.slice none 0 0] 105 (0,0)):=(hg.block _ (by omega) (fun e=>by injection e with e;omega)).trans ((cf.out.block _ cO).trans cN.out)
  have cU:=cf.out.grown hg cf.out.size (fun b e=>by cases e;exact aa _)
  by_cases h0:0<D.length
  ·exact⟨pb,rfl,rfl,rfl,rfl,aF R R.heap.size 108 3,aF R R.heap.size 161 8,aF R R.heap.size 163 5,aF R R.heap.size 163 5,apart.nil,apart.nil,apart.nil,apart.nil,apart.nil,apart.nil,cS,
    hP.agr (Agr.grown hg (fun g e1 e2=>by cases e1;have e2:l.heap.size=pb:=e2;omega)),cT,(by simp[Value.ownBlock]),(by simp[Value.ownBlock]),(by simp[Value.ownBlock]),(by simp[Value.ownBlock]),by omega,cU,aa _,aa _,by omega,by have:=ed h0;omega,by omega⟩
  ·exact⟨w00.heap.size,rfl,rfl,rfl,rfl,aF R R.heap.size 108 3,aF R R.heap.size 161 8,aF R R.heap.size 163 5,aF R R.heap.size 163 5,apart.nil,apart.nil,apart.nil,apart.nil,apart.nil,apart.nil,cS,
    (fun k hk=>absurd hk (by omega)),cT,(by simp[Value.ownBlock]),(by simp[Value.ownBlock]),(by simp[Value.ownBlock]),(by simp[Value.ownBlock]),by omega,cU,aa _,aa _,by omega,by omega,by omega⟩
 obtain⟨aI,bJ⟩:=bJ
 have dP:=hid (show D.length≤20 by have h9:=onS_len (L.map hdOf);rw[←bz.out,aQ] at h9;omega)
 have ee:=hid bJ
 have h5:w4.heap.size≤R.heap.size:=by rw[a7];simp[World.setCell]
 clear bJ a7 s0 g0 bG bI cQ cR aH cP bi cJ bx cK
 go_upto_region 7 with fail
 go_loopg [4,5,6] L.length (fun g0 a t i wr=>∃(k:Nat) (aA tA O P:Option Addr) (ac na tc nt U J Y M:Nat) (E:Nat) (ko:Obj),k+g0=L.length∧i= .int .i64 k∧a= .slice aA na ac∧t= .slice tA nt tc∧na≤k*2∧nt≤k*2∧J≤k*2∧M≤k*200∧Hid (OfI R.heap.size l.heap.size aI E H D ko (.slice H D.length ae) (.slice O J U) (.slice P M Y) l wr (.slice aA na ac) (.slice tA nt tc) (.slice O J U) (.slice P M Y) na nt J M (upto (gAt D L) k) (upto (gTl D L) k) (upto (gHv D L) k) (upto (gLs D L) k)))
 case atStart=>exact⟨0,none,none,none,none,0,0,0,0,0,0,0,0,w00.heap.size,(.cells #[.slice none 0 0,.slice none 0 0,.slice none 0 0,.slice none 0 0,.slice none 0 0] 105 (0,0)),bN _,rfl,rfl,rfl,aq _,aq _,aq _,aq _,ee⟩
 case round =>
  obtain⟨k,aA,tA,O,P,ac,na,tc,nt,U,J,Y,M,E,ko,hk,rfl,rfl,rfl,a8,a9,ba,bj,Z⟩:=hrel
  by_cases bK:k<L.length
  ·have i1 : (0:Int)≤(k:Int):=by omega
   have i2:(k:Int)<(L.length:Int):=by omega
   obtain⟨rb,ro,ef,cV,a1⟩:=b9.out.range bK
   cases ef
   obtain⟨p,hp⟩:∃p,p=L.getD k gp0:=⟨_,rfl⟩
   have cW:=(cM.out _ (bL bK gp0)).ops
   have cg:=b3.out _ (bL bK gp0)
   have bk:=ea.out _ (bL bK gp0)
   rw[←hp] at cW cg bk a1
   have cY:upto (gAt D L) (k+1)=upto (gAt D L) k++upto (oAt (onB D p.1.s) p.1.s p.1.ops) p.1.ops.length:=by rw[fg,hp];rfl
   have cZ:upto (gTl D L) (k+1)=upto (gTl D L) k++upto (oTl (onB D p.1.s) p.1.ops) p.1.ops.length:=by rw[fg,hp];rfl
   have c0:upto (gHv D L) (k+1)=upto (gHv D L) k++upto (oHv (onB D p.1.s) p.1.s p.1.ops) p.1.ops.length:=by rw[fg,hp];rfl
   have c2:upto (gLs D L) (k+1)=upto (gLs D L) k++upto (oLs (onB D p.1.s) p.1.ops) p.1.ops.length:=by rw[fg,hp];rfl
   generalize upto (gAt D L) k=aP at *
   generalize upto (gTl D L) k=aS at *
   generalize upto (gHv D L) k=aU at *
   generalize upto (gLs D L) k=aV at *
   obtain⟨⟨⟨t,r⟩,n,dv,⟨ut,ur⟩,ops⟩,⟨dA,dc,oA,oc⟩⟩:=p
   obtain⟨X,c4,c5⟩:=cW
   have cg:ops.length≤2:=cg
   have bk:∀o∈ops,o.dots.length≤100∧o.text.size≤1000000:=bk
   obtain⟨b,hb⟩:∃b,b=onB D ⟨t,r⟩:=⟨_,rfl⟩
   have eg:=hid (show upto (gAt D L) (k+1)=aP++upto (oAt b ⟨t,r⟩ ops) ops.length by rw[hb];exact cY)
   have eh:=hid (show upto (gTl D L) (k+1)=aS++upto (oTl b ops) ops.length by rw[hb];exact cZ)
   have ej:=hid (show upto (gHv D L) (k+1)=aU++upto (oHv b ⟨t,r⟩ ops) ops.length by rw[hb];exact c0)
   have ek:=hid (show upto (gLs D L) (k+1)=aV++upto (oLs b ops) ops.length by rw[hb];exact c2)
   have ah:=hid (fun W (hB:Below l.heap.size l W)=>show W.rangeAt rb (ro+k*7) [.int .i64 t,.int .i64 r,.int .i64 n,.slice dA dv.length dc,.int .i64 ut,.int .i64 ur,.slice oA ops.length oc] from cd a1 cV hB)
   have el:=hid c4
   have em:=hid c5
   have en:=hid bk
   have aY:=hid (ah.out wr Z.out.bl)
   have c6:=hid (fun W (hB:Below wr.heap.size wr W)=>show Calls Tryz.prog 109 #[.slice H D.length ae,.agg #[.int .i64 t,.int .i64 r]] W fun e w'=>e= .returned (.bool b)∧Below W.heap.size W w' from by rw[hb];exact hasstamp_any D H ae ⟨t,r⟩ _ W (by have:=dP.out;omega) (Z.out.on.below hB))
   have eo:=aj (w:=wr) (a:=⟨l.heap.size,0,none⟩) (v:= .slice H D.length ae) (crw Z.out.st)
   have y0:=aj (w:=wr) (a:=⟨rb,ro+k*7,none⟩) (v:= .int .i64 t) (aY.out 0 _ rfl)
   have y1:=aj (w:=wr) (a:=⟨rb,ro+k*7+1,none⟩) (v:= .int .i64 r) (aY.out 1 _ rfl)
   have cA:=fun d os=>ay (c6.out (grow (redrawn wr d) os) (bE wr d os))
   clear hp a1 cV cY cZ c0 c2 hb c4 c5 bk
   go_upto_region 9 with fail
   refine rqb ?_
   repeat(any_goals(first|go_big_quiet_step (with_reducible exact cA _ _)|quiet_step (with_reducible exact cA _ _)))
   refine qz fun wq c7=> ?_
   have I:=hid (Z.out.below c7)
   clear eo y0 y1 cA c6 aY Z c7
   go_upto_region 11 with fail
   go_loopg [4,5,8] ops.length (fun g1 a t_ i wr=>∃(j:Nat) (aA tA O P:Option Addr) (ac na tc nt U J Y M:Nat) (E:Nat) (ko:Obj),j+g1=ops.length∧True∧i= .int .i64 j∧a= .slice aA na ac∧t_= .slice tA nt tc∧na≤k*2+j∧nt≤k*2+j∧J≤k*2+j∧M≤k*200+j*100∧Hid (OfI R.heap.size l.heap.size aI E H D ko (.slice H D.length ae) (.slice O J U) (.slice P M Y) l wr (.slice aA na ac) (.slice tA nt tc) (.slice O J U) (.slice P M Y) na nt J M (aP++upto (oAt b ⟨t,r⟩ ops) j) (aS++upto (oTl b ops) j) (aU++upto (oHv b ⟨t,r⟩ ops) j) (aV++upto (oLs b ops) j)))
   case atStart=>exact⟨0,aA,tA,O,P,ac,na,tc,nt,U,J,Y,M,E,ko,bN _,trivial,rfl,rfl,rfl,a8,a9,ba,bj,hid (by have h9:=I.out;simpa[upto] using h9)⟩
   case round=>
    clear I a8 a9 ba bj
    obtain⟨j,aA,tA,O,P,ac,na,tc,nt,U,J,Y,M,ep,es,hj,-,rfl,rfl,rfl,a8,a9,ba,bj,Z⟩:=hrel
    have aY:=hid (ah.out wr Z.out.bl)
    have g6:wr.cell? ⟨rb,ro+k*7+6,none⟩=some (.slice oA ops.length oc):=aY.out 6 _ rfl
    by_cases ch:j<ops.length
    ·have j1 :(0:Int)≤(j:Int):=by omega
     have j2:(j:Int)<(ops.length:Int):=by omega
     obtain⟨ob,oo,eu,-,c8,c9⟩:=el.out j ch
     have de:=jw c9
     have df:=(em.out j ch).dots
     have dg:=(en.out _ (bL ch (opO 0 .zero))).1
     have u1:aP++upto (oAt b ⟨t,r⟩ ops) (j+1)=aP++upto (oAt b ⟨t,r⟩ ops) j++(if (decide ((ops.getD j (opO 0 .zero)).kind=0) || (decide ((ops.getD j (opO 0 .zero)).kind=1) && b))=true then [⟨⟨t,r⟩,(j:Int)⟩] else []):=by rw[fg,←aG];rfl
     have u2:aS++upto (oTl b ops) (j+1)=aS++upto (oTl b ops) j++(if (decide ((ops.getD j (opO 0 .zero)).kind=0) || (decide ((ops.getD j (opO 0 .zero)).kind=1) && b))=true then [⟨(ops.getD j (opO 0 .zero)).node,(ops.getD j (opO 0 .zero)).parent,(ops.getD j (opO 0 .zero)).name,(ops.getD j (opO 0 .zero)).dir⟩] else []):=by rw[fg,←aG];rfl
     have u3:aU++upto (oHv b ⟨t,r⟩ ops) (j+1)=aU++upto (oHv b ⟨t,r⟩ ops) j++(if (b && !(decide ((ops.getD j (opO 0 .zero)).kind=2)))=true then [⟨(ops.getD j (opO 0 .zero)).node,⟨t,r⟩⟩] else []):=by rw[fg,←aG];rfl
     have u4:aV++upto (oLs b ops) (j+1)=aV++upto (oLs b ops) j++(if b=true then (ops.getD j (opO 0 .zero)).dots.map (fun d=>(⟨(ops.getD j (opO 0 .zero)).node,d⟩:Dt)) else []):=by rw[fg,←aG];rfl
     generalize aP++upto (oAt b ⟨t,r⟩ ops) j=AT at *
     generalize aS++upto (oTl b ops) j=TL at *
     generalize aU++upto (oHv b ⟨t,r⟩ ops) j=HV at *
     generalize aV++upto (oLs b ops) j=LS at *
     generalize (ops.getD j (opO 0 .zero))=o at *
     generalize X j=x at *
     obtain⟨kd,⟨⟨m,B⟩,C⟩,⟨⟨pt,pr⟩,pi⟩,nm,dd,dots,⟨⟨ak,ar⟩,ai⟩,⟨⟨et,er⟩,ei⟩,tx,G⟩:=o
     obtain⟨sA,sc,eA,ec⟩:=x
     have dg:dots.length≤100:=dg
     have ev:=hid (show RowF l S sA 2 stL Gst.zero dots from RowG.congr df (fun k j hk hj=>by
      rcases(show j=0∨j=1 by omega) with rfl|rfl<;>rfl))
     have ew:=hid (fun W (hB:Below l.heap.size l W)=>show W.rangeAt ob (oo+j*18) [.int .i64 kd,.int .i64 m,.int .i64 B,.int .i64 C,.int .i64 pt,.int .i64 pr,.int .i64 pi,.string nm,.bool dd,.slice sA dots.length sc,.int .i64 ak,.int .i64 ar,.int .i64 ai,.int .i64 et,.int .i64 er,.int .i64 ei,.string tx,.slice eA G.length ec] from cd de c8 hB)
     have dh:=hid (ew.out wr Z.out.bl)
     obtain⟨b0,aE⟩:∃b,b=decide (kd=0):=⟨_,rfl⟩
     obtain⟨b1,bO⟩:∃b,b=decide (kd=1):=⟨_,rfl⟩
     obtain⟨h2,ci⟩:∃b,b= !decide (kd=2):=⟨_,rfl⟩
     have q0:(kd == 0)=b0:=by rw[aE];rfl
     have q1:(kd == 1)=b1:=by rw[bO];rfl
     have q2:(kd != 2)=h2:=by rw[ci];rfl
     have cj:=(show aP++upto (oAt b ⟨t,r⟩ ops) (j+1)=AT++(if (b0 || (b1 && b))=true then [⟨⟨t,r⟩,(j:Int)⟩] else []) by rw[u1,aE,bO])
     have ck:=(show aS++upto (oTl b ops) (j+1)=TL++(if (b0 || (b1 && b))=true then [⟨⟨⟨m,B⟩,C⟩,⟨⟨pt,pr⟩,pi⟩,nm,dd⟩] else []) by rw[u2,aE,bO])
     have cl:=(show aU++upto (oHv b ⟨t,r⟩ ops) (j+1)=HV++(if (b && h2)=true then [⟨⟨⟨m,B⟩,C⟩,⟨t,r⟩⟩] else []) by rw[u3,ci])
     have di:=hid (show aV++upto (oLs b ops) (j+1)=LS++(if b=true then dots.map (fun d=>(⟨⟨⟨m,B⟩,C⟩,d⟩:Dt)) else []) by rw[u4])
     cases eu
     clear de c8 c9 df u1 u2 u3 u4 aE bO ci
     go_upto_region 14 with(first
      |(refine ii rfl _ _ rfl ob (oo+j*18) rfl [.int .i64 kd,.int .i64 m,.int .i64 B,.int .i64 C,.int .i64 pt,.int .i64 pr,.int .i64 pi,.string nm,.bool dd,.slice sA dots.length sc,.int .i64 ak,.int .i64 ar,.int .i64 ai,.int .i64 et,.int .i64 er,.int .i64 ei,.string tx,.slice eA G.length ec] _ dh.out az rfl (by kernel_rfl) ?_)
      |(refine bM rfl _ _ _ rfl _ _ _ _ rfl ?_ rfl ?_ ?_ ?_ ?_;(focus(simp;done));kernel_rfl;rfl;rfl))
     have bl:=hid (Z.out.newk (.cells #[.int .i64 kd,.int .i64 m,.int .i64 B,.int .i64 C,.int .i64 pt,.int .i64 pr,.int .i64 pi,.string nm,.bool dd,.slice sA dots.length sc,.int .i64 ak,.int .i64 ar,.int .i64 ai,.int .i64 et,.int .i64 er,.int .i64 ei,.string tx,.slice eA G.length ec] 125))
     generalize hW:wr.alloc (.cells #[.int .i64 kd,.int .i64 m,.int .i64 B,.int .i64 C,.int .i64 pt,.int .i64 pr,.int .i64 pi,.string nm,.bool dd,.slice sA dots.length sc,.int .i64 ak,.int .i64 ar,.int .i64 ai,.int .i64 et,.int .i64 er,.int .i64 ei,.string tx,.slice eA G.length ec] 125)=W at *
     generalize ex:wr.heap.size=E at *
     clear hW ex g6 dh Z aY
     have z0:W.cell? ⟨E,0,none⟩=some (.int .i64 kd):=aD _ _ _ _ _ _ bl.out.ke
     obtain⟨cc,cm⟩:∃c,c=(b0 || (b1 && b)):=⟨_,rfl⟩
     have ey:=hid cm
     rw[←cm] at cj ck
     clear cm
     obtain⟨bP,cn⟩:∃c,c=(b && h2):=⟨_,rfl⟩
     have ez:=hid cn
     rw[←cn] at cl
     clear cn
     have dj:=hid cj
     have dk:=hid ck
     have dl:=hid cl
     clear cj ck cl
     rw[show ∀(a:Act) (v:Value),a.put none v=a from fun _ _=>rfl]
     go_cut [59] (fun s wx=>s= .bool cc∧W=wx)
     case first=>
      cases b0<;>cases b1<;>cases b
      all_goals go_wp2
      all_goals go_meet
      all_goals exact⟨by rw[ey.out];rfl,rfl⟩
     case rest=>
      obtain⟨rfl,rfl⟩:=hcut
      go_upto_if 59 with fail
      go_cut [4,5] (fun a t_ wx=>∃(aA tA:Option Addr) (ac na tc nt:Nat),a= .slice aA na ac∧t_= .slice tA nt tc∧na≤k*2+j+1∧nt≤k*2+j+1∧Hid (OfI R.heap.size l.heap.size aI E H D (.cells #[.int .i64 kd,.int .i64 m,.int .i64 B,.int .i64 C,.int .i64 pt,.int .i64 pr,.int .i64 pi,.string nm,.bool dd,.slice sA dots.length sc,.int .i64 ak,.int .i64 ar,.int .i64 ai,.int .i64 et,.int .i64 er,.int .i64 ei,.string tx,.slice eA G.length ec] 125 (0,0)) (.slice H D.length ae) (.slice O J U) (.slice P M Y) l wx (.slice aA na ac) (.slice tA nt tc) (.slice O J U) (.slice P M Y) na nt J M (AT++(if cc=true then [⟨⟨t,r⟩,(j:Int)⟩] else [])) (TL++(if cc=true then [⟨⟨⟨m,B⟩,C⟩,⟨⟨pt,pr⟩,pi⟩,nm,dd⟩] else [])) (HV) (LS)))
      case first=>
       cases cc with
       |false=>
        go_wp2
        go_meet
        exact⟨aA,tA,ac,na,tc,nt,rfl,rfl,by omega,by omega,hid (by have h9:=bl.out;simpa using h9)⟩
       | true=>
        go_upto_region 15 with fail
        have aY:=hid (ah.out W bl.out.bl)
        have bm:=hid (show W.rangeAt rb (ro+k*7) [.int .i64 t,.int .i64 r] from bv (pre:=[]) (mid:=[.int .i64 t,.int .i64 r]) (post:=[.int .i64 n,.slice dA dv.length dc,.int .i64 ut,.int .i64 ur,.slice (some ⟨ob,oo,none⟩) ops.length oc]) aY.out)
        go_upto_region 16 with(first
         |(refine ii rfl _ _ rfl rb (ro+k*7) rfl [.int .i64 t,.int .i64 r] _ bm.out cb rfl (by kernel_rfl) ?_)
         |(at_builtin;have F:=hid (bl.out.below (show Below W.heap.size W (W.alloc (.cells #[.int .i64 t,.int .i64 r,.int .i64 (j:Int)] 108)) from(ag _ _).alloc (aa _) _));refine bX _ rfl _ _ 123 rfl R.heap.size 108 iA (.agg #[.int .i64 0,.int .i64 0,.int .i64 0]) 3 24 eQ he d1 d2 d3 rfl (by decide) (.slice aA na ac) na _ rfl (by exact F.out.oa) ⟨W.heap.size,0,none⟩ 1 1 [.int .i64 t,.int .i64 r,.int .i64 (j:Int)] rfl rfl (fun j9 y9 h9=>dH W [.int .i64 t,.int .i64 r,.int .i64 (j:Int)] 108 j9 y9 h9) (fw (c:=#[.int .i64 t,.int .i64 r,.int .i64 (j:Int)]) rfl) (by decide) (by unfold maxLen;omega) (by omega) (by exact F.out.sz) (W.heap.size+1) (by simp) ?_;intro dQ cC w6 a2 al aB bu;have bg:=hid (F.out.app_a ⟨⟨t,r⟩,(j:Int)⟩ (by exact a2) al (by rw[show(W.alloc (.cells #[.int .i64 t,.int .i64 r,.int .i64 (j:Int)] 108)).heap.size=W.heap.size+1 by simp];exact aB));clear a2 al aB bu F))
        have dm:=hid (show w6.rangeAt E 0 [.int .i64 kd,.int .i64 m,.int .i64 B,.int .i64 C,.int .i64 pt,.int .i64 pr,.int .i64 pi,.string nm,.bool dd,.slice sA dots.length sc,.int .i64 ak,.int .i64 ar,.int .i64 ai,.int .i64 et,.int .i64 er,.int .i64 ei,.string tx,.slice eA G.length ec] from bf bg.out.ke)
        have eB:=hid (show w6.rangeAt E 1 [.int .i64 m,.int .i64 B,.int .i64 C] from bv (pre:=[.int .i64 kd]) (mid:=[.int .i64 m,.int .i64 B,.int .i64 C]) (post:=[.int .i64 pt,.int .i64 pr,.int .i64 pi,.string nm,.bool dd,.slice sA dots.length sc,.int .i64 ak,.int .i64 ar,.int .i64 ai,.int .i64 et,.int .i64 er,.int .i64 ei,.string tx,.slice eA G.length ec]) dm.out)
        have eC:=hid (show w6.rangeAt E 4 [.int .i64 pt,.int .i64 pr,.int .i64 pi] from bv (pre:=[.int .i64 kd,.int .i64 m,.int .i64 B,.int .i64 C]) (mid:=[.int .i64 pt,.int .i64 pr,.int .i64 pi]) (post:=[.string nm,.bool dd,.slice sA dots.length sc,.int .i64 ak,.int .i64 ar,.int .i64 ai,.int .i64 et,.int .i64 er,.int .i64 ei,.string tx,.slice eA G.length ec]) dm.out)
        have v7:w6.cell? ⟨E,7,none⟩=some (.string nm):=aD _ _ _ _ _ _ bg.out.ke
        have v8:w6.cell? ⟨E,8,none⟩=some (.bool dd):=aD _ _ _ _ _ _ bg.out.ke
        go_wp2_with (first
         |(refine ii rfl _ _ rfl E (1) rfl [.int .i64 m,.int .i64 B,.int .i64 C] _ eB.out aw rfl (by kernel_rfl) ?_)
         |(refine ii rfl _ _ rfl E (4) rfl [.int .i64 pt,.int .i64 pr,.int .i64 pi] _ eC.out aw rfl (by kernel_rfl) ?_)
         |(at_builtin;have F:=hid (bg.out.below (show Below w6.heap.size w6 (w6.alloc (.cells #[.int .i64 m,.int .i64 B,.int .i64 C,.int .i64 pt,.int .i64 pr,.int .i64 pi,.string nm,.bool dd] 161)) from(ag _ _).alloc (aa _) _));refine bX _ rfl _ _ 101 rfl R.heap.size 161 iP (.agg #[.int .i64 0,.int .i64 0,.int .i64 0,.int .i64 0,.int .i64 0,.int .i64 0,.string ⟨#[]⟩,.bool false]) 8 72 Tryz.underlying101 hf d4 d5 d6 rfl (by decide) (.slice tA nt tc) nt _ rfl (by exact F.out.ot) ⟨w6.heap.size,0,none⟩ 1 1 [.int .i64 m,.int .i64 B,.int .i64 C,.int .i64 pt,.int .i64 pr,.int .i64 pi,.string nm,.bool dd] rfl rfl (fun j9 y9 h9=>dH w6 [.int .i64 m,.int .i64 B,.int .i64 C,.int .i64 pt,.int .i64 pr,.int .i64 pi,.string nm,.bool dd] 161 j9 y9 h9) (fw (c:=#[.int .i64 m,.int .i64 B,.int .i64 C,.int .i64 pt,.int .i64 pr,.int .i64 pi,.string nm,.bool dd]) rfl) (by decide) (by unfold maxLen;omega) (by omega) (by exact F.out.sz) (w6.heap.size+1) (by simp) ?_;intro dS cD w7 a2 al aB bu;have dT:=hid (F.out.app_t ⟨⟨⟨m,B⟩,C⟩,⟨⟨pt,pr⟩,pi⟩,nm,dd⟩ (by exact a2) al (by rw[show(w6.alloc (.cells #[.int .i64 m,.int .i64 B,.int .i64 C,.int .i64 pt,.int .i64 pr,.int .i64 pi,.string nm,.bool dd] 161)).heap.size=w6.heap.size+1 by simp];exact aB));clear a2 al aB bu F))
        go_meet
        exact⟨some ⟨dQ,0,none⟩,some ⟨dS,0,none⟩,cC,na+1,cD,nt+1,rfl,rfl,by omega,by omega,hid (by have h9:=dT.out;simpa using h9)⟩
      case rest=>
       clear bl a8 a9
       obtain⟨aA,tA,ac,na,tc,nt,rfl,rfl,a8,a9,I⟩:=hcut
       generalize wc=Q at *
       have z0:Q.cell? ⟨E,0,none⟩=some (.int .i64 kd):=aD _ _ _ _ _ _ I.out.ke
       go_upto_region 17 with fail
       go_cut [87] (fun s wx=>s= .bool bP∧Q=wx)
       case first=>
        cases b<;>cases h2
        all_goals go_wp2
        all_goals go_meet
        all_goals exact⟨by rw[ez.out];rfl,rfl⟩
       case rest=>
        obtain⟨rfl,rfl⟩:=hcut
        clear z0
        go_upto_if 87 with fail
        go_cut [] (fun wx=>∃(O:Option Addr) (U J:Nat),J≤k*2+j+1∧Hid (OfI R.heap.size l.heap.size aI E H D (.cells #[.int .i64 kd,.int .i64 m,.int .i64 B,.int .i64 C,.int .i64 pt,.int .i64 pr,.int .i64 pi,.string nm,.bool dd,.slice sA dots.length sc,.int .i64 ak,.int .i64 ar,.int .i64 ai,.int .i64 et,.int .i64 er,.int .i64 ei,.string tx,.slice eA G.length ec] 125 (0,0)) (.slice H D.length ae) (.slice O J U) (.slice P M Y) l wx (.slice aA na ac) (.slice tA nt tc) (.slice O J U) (.slice P M Y) na nt J M (AT++(if cc=true then [⟨⟨t,r⟩,(j:Int)⟩] else [])) (TL++(if cc=true then [⟨⟨⟨m,B⟩,C⟩,⟨⟨pt,pr⟩,pi⟩,nm,dd⟩] else [])) (HV++(if bP=true then [⟨⟨⟨m,B⟩,C⟩,⟨t,r⟩⟩] else [])) (LS)))
        case first=>
         cases bP with
         |false=>
          go_wp2
          go_meet
          exact⟨O,U,J,by omega,hid (by have h9:=I.out;simpa using h9)⟩
         | true=>
          go_upto_region 18 with fail
          have cp:Q.cell? ⟨l.heap.size,2,none⟩=some (.slice O J U):=aD _ _ _ _ _ _ I.out.st
          have F:=hid (I.out.below (show Below Q.heap.size Q (Q.alloc (.cells #[.int .i64 m,.int .i64 B,.int .i64 C,.int .i64 t,.int .i64 r] 163)).drew from((ag _ _).alloc (aa _) _).drew))
          have cq:(Q.alloc (.cells #[.int .i64 m,.int .i64 B,.int .i64 C,.int .i64 t,.int .i64 r] 163)).drew.cell? ⟨l.heap.size,2,none⟩=some (.slice O J U):=aD _ _ _ _ _ _ F.out.st
          have a3:(Q.alloc (.cells #[.int .i64 m,.int .i64 B,.int .i64 C,.int .i64 t,.int .i64 r] 163)).drew.heap.size=Q.heap.size+1:=by show(Q.alloc _).heap.size=_;simp
          have bn:=hid (fun (i:Nat) (y:Value) (h:([.int .i64 m,.int .i64 B,.int .i64 C,.int .i64 t,.int .i64 r]:List Value)[i]? =some y)=>dH Q [.int .i64 m,.int .i64 B,.int .i64 C,.int .i64 t,.int .i64 r] 163 i y h)
          have aH:=hid (show ∀u∈([.int .i64 m,.int .i64 B,.int .i64 C,.int .i64 t,.int .i64 r]:List Value),u.oneCell'=true from fw (c:=#[.int .i64 m,.int .i64 B,.int .i64 C,.int .i64 t,.int .i64 r]) rfl)
          refine aR (S:=fun W'=>W'.heap[E]? =some (.cells #[.int .i64 kd,.int .i64 m,.int .i64 B,.int .i64 C,.int .i64 pt,.int .i64 pr,.int .i64 pi,.string nm,.bool dd,.slice sA dots.length sc,.int .i64 ak,.int .i64 ar,.int .i64 ai,.int .i64 et,.int .i64 er,.int .i64 ei,.string tx,.slice eA G.length ec] 125 (0,0))∧W'.rangeAt rb (ro+k*7) [.int .i64 t,.int .i64 r,.int .i64 n,.slice dA dv.length dc,.int .i64 ut,.int .i64 ur,.slice (some ⟨ob,oo,none⟩) ops.length oc]) (by kernel_rfl) ?_
          try(change wpAnyH _ _ _ _ _ _ _ _ (World.drew _))
          refine tk 0 (.pointer (some ⟨l.heap.size,2,none⟩)) ((show Q.drew.heap[E]? =_∧Q.drew.rangeAt _ _ _ from⟨I.out.ke,ah.out Q I.out.bl⟩)) ?_
          go_simp
          refine tk 2 (.pointer (some ⟨E,1,none⟩)) ((show Q.drew.heap[E]? =_∧Q.drew.rangeAt _ _ _ from⟨I.out.ke,ah.out Q I.out.bl⟩)) ?_
          go_simp
          refine wpAnyH_take (i:=3) (v:= .agg #[.int .i64 m,.int .i64 B,.int .i64 C]) rfl (by kernel_rfl) (by kernel_rfl) (by kernel_rfl) (fun _ _ _ h=>h) (aT (by rfl) _ _ rfl E (1) rfl [.int .i64 m,.int .i64 B,.int .i64 C] _ (fun W' au=>bv (pre:=[]) (mid:=[.int .i64 m,.int .i64 B,.int .i64 C]) (post:=[]) (bv (pre:=[.int .i64 kd]) (mid:=[.int .i64 m,.int .i64 B,.int .i64 C]) (post:=[.int .i64 pt,.int .i64 pr,.int .i64 pi,.string nm,.bool dd,.slice sA dots.length sc,.int .i64 ak,.int .i64 ar,.int .i64 ai,.int .i64 et,.int .i64 er,.int .i64 ei,.string tx,.slice eA G.length ec]) (bf au.1))) aw rfl (by kernel_rfl)) ((show Q.drew.heap[E]? =_∧Q.drew.rangeAt _ _ _ from⟨I.out.ke,ah.out Q I.out.bl⟩)) ?_
          go_simp
          refine tk 4 (.slice (some ⟨rb,ro,none⟩) L.length c1) ((show Q.drew.heap[E]? =_∧Q.drew.rangeAt _ _ _ from⟨I.out.ke,ah.out Q I.out.bl⟩)) ?_
          go_simp
          refine tk 5 (.int .i64 (k:Int)) ((show Q.drew.heap[E]? =_∧Q.drew.rangeAt _ _ _ from⟨I.out.ke,ah.out Q I.out.bl⟩)) ?_
          go_simp
          refine tk 6 (.pointer (some ⟨rb,ro+k*7,none⟩)) ((show Q.drew.heap[E]? =_∧Q.drew.rangeAt _ _ _ from⟨I.out.ke,ah.out Q I.out.bl⟩)) ?_
          go_simp
          refine tk 7 (.pointer (some ⟨rb,ro+k*7,none⟩)) ((show Q.drew.heap[E]? =_∧Q.drew.rangeAt _ _ _ from⟨I.out.ke,ah.out Q I.out.bl⟩)) ?_
          go_simp
          refine wpAnyH_take (i:=8) (v:= .agg #[.int .i64 t,.int .i64 r]) rfl (by kernel_rfl) (by kernel_rfl) (by kernel_rfl) (fun _ _ _ h=>h) (aT (by rfl) _ _ rfl rb (ro+k*7) rfl [.int .i64 t,.int .i64 r] _ (fun W' au=>bv (pre:=[]) (mid:=[.int .i64 t,.int .i64 r]) (post:=[.int .i64 n,.slice dA dv.length dc,.int .i64 ut,.int .i64 ur,.slice (some ⟨ob,oo,none⟩) ops.length oc]) (au.2)) cb rfl (by kernel_rfl)) ((show Q.drew.heap[E]? =_∧Q.drew.rangeAt _ _ _ from⟨I.out.ke,ah.out Q I.out.bl⟩)) ?_
          go_simp
          refine tk 9 (.agg #[.int .i64 m,.int .i64 B,.int .i64 C,.int .i64 t,.int .i64 r]) ((show Q.drew.heap[E]? =_∧Q.drew.rangeAt _ _ _ from⟨I.out.ke,ah.out Q I.out.bl⟩)) ?_
          go_simp
          refine dp (rs:=[1,10]) (by kernel_rfl) (by simp) ?_
          refine aX rfl (fun K N=> ?_) (aX rfl (fun K N=> ?_) cX)
          focus
           go_simp
           refine N.out _ _ ((show Q.drew.heap[E]? =_∧Q.drew.rangeAt _ _ _ from⟨I.out.ke,ah.out Q I.out.bl⟩)) (fun _=> ?_)
           clear N K
           refine dp (rs:=[10]) (by kernel_rfl) (by simp) ?_
           refine aX rfl (fun K N=> ?_) cX
           go_simp
           refine N.out _ _ (⟨F.out.ke,ah.out _ F.out.bl⟩) (fun _=> ?_)
           clear N K
          rotate_left
          focus
           go_simp
           refine N.out _ _ (⟨F.out.ke,ah.out _ F.out.bl⟩) (fun _=> ?_)
           clear N K
           refine dp (rs:=[1]) (by kernel_rfl) (by simp) ?_
           refine aX rfl (fun K N=> ?_) cX
           go_simp
           refine N.out _ _ (⟨F.out.ke,ah.out _ F.out.bl⟩) (fun _=> ?_)
           clear N K
          all_goals
           refine dp (rs:=[11]) (by kernel_rfl) (by simp) ?_
           refine aX rfl (fun K N=> ?_) cX
           refine dW _ (by rfl) _ _ 102 (by rfl) R.heap.size 163 iD (.agg #[.int .i64 0,.int .i64 0,.int .i64 0,.int .i64 0,.int .i64 0]) 5 40 Tryz.underlying102 hd cE cF cG rfl (by decide) (.slice O J U) J _ (by rfl) (by exact F.out.oh) ⟨Q.heap.size,0,none⟩ 1 1 [.int .i64 m,.int .i64 B,.int .i64 C,.int .i64 t,.int .i64 r] (by rfl) (by rfl) (by exact bn.out) aH.out (by decide) (by unfold maxLen;omega) (by omega) (by exact F.out.sz) (Q.heap.size+1) a3 ?_
           intro gq a4 w6 av al aB bw
           have an:=hid (F.out.app_h ⟨⟨⟨m,B⟩,C⟩,⟨t,r⟩⟩ (by exact av) al (by rw[a3];exact aB))
           have cr:w6.cell? ⟨l.heap.size,2,none⟩=some (.slice O J U):=aD _ _ _ _ _ _ an.out.st
           have cs:w6.frozen? ⟨l.heap.size,2,none⟩=false:=aW _ _ _ _ _ an.out.st
           have aJ:=hid (an.out.put 2 (.slice (some ⟨gq,0,none⟩) (J+1) a4) rfl)
           clear av al aB bw cp cq
           refine N.out _ _ (⟨an.out.ke,ah.out _ an.out.bl⟩) (fun _=> ?_)
           clear N K
           refine tk 12 (.pointer (some ⟨l.heap.size,2,none⟩)) (⟨an.out.ke,ah.out _ an.out.bl⟩) ?_
           go_simp
           refine dp (rs:=[13]) (by kernel_rfl) (by simp) ?_
           refine aX rfl (fun K N=> ?_) cX
           go_simp
           refine N.out _ _ (⟨aJ.out.ke,ah.out _ aJ.out.bl⟩) (fun _=> ?_)
           clear N K
           refine be (by kernel_rfl) ?_ _
           go_simp
           generalize w6.setCell ⟨l.heap.size,2,none⟩ (.slice (some ⟨gq,0,none⟩) (J+1) a4)=V at *
           have ao:=hid aJ.out
           clear aJ an F bn aH a3 cr cs
           go_wp2
           go_meet
           exact⟨some ⟨gq,0,none⟩,a4,J+1,by omega,hid (by have h9:=ao.out;simpa using h9)⟩
        case rest=>
         clear I ba
         obtain⟨O,U,J,ba,aN⟩:=hcut
         generalize wc=W3 at *
         go_upto_region 20 with fail
         cases b with
         | true=>
          go_loopg [10] dots.length (fun g2 i wr=>∃(q:Nat) (P:Option Addr) (Y M:Nat),q+g2=dots.length∧i= .int .i64 q∧M≤k*200+j*100+q∧Hid (OfI R.heap.size l.heap.size aI E H D (.cells #[.int .i64 kd,.int .i64 m,.int .i64 B,.int .i64 C,.int .i64 pt,.int .i64 pr,.int .i64 pi,.string nm,.bool dd,.slice sA dots.length sc,.int .i64 ak,.int .i64 ar,.int .i64 ai,.int .i64 et,.int .i64 er,.int .i64 ei,.string tx,.slice eA G.length ec] 125 (0,0)) (.slice H D.length ae) (.slice O J U) (.slice P M Y) l wr (.slice aA na ac) (.slice tA nt tc) (.slice O J U) (.slice P M Y) na nt J M (AT++(if cc=true then [⟨⟨t,r⟩,(j:Int)⟩] else [])) (TL++(if cc=true then [⟨⟨⟨m,B⟩,C⟩,⟨⟨pt,pr⟩,pi⟩,nm,dd⟩] else [])) (HV++(if bP=true then [⟨⟨⟨m,B⟩,C⟩,⟨t,r⟩⟩] else [])) (LS++(dots.take q).map (fun d=>(⟨⟨⟨m,B⟩,C⟩,d⟩:Dt)))))
          case atStart=>exact⟨0,P,Y,M,by omega,rfl,by omega,hid (by have h9:=aN.out;simpa using h9)⟩
          case round=>
           clear aN bj
           obtain⟨q,P,Y,M,hq,rfl,eY,Z⟩:=hrel
           have z9:wr.cell? ⟨E,9,none⟩=some (.slice sA dots.length sc):=aD _ _ _ _ _ _ Z.out.ke
           by_cases dn:q<dots.length
           ·have l1:(0:Int)≤(q:Int):=by omega
            have l2:(q:Int)<(dots.length:Int):=by omega
            obtain⟨db,aZ,eD,-,dq,ds⟩:=ev.out.range (fun _=>rfl) dn
            have du:(dots.take (q+1)).map (fun d=>(⟨⟨⟨m,B⟩,C⟩,d⟩:Dt))=(dots.take q).map (fun d=>(⟨⟨⟨m,B⟩,C⟩,d⟩:Dt))++[⟨⟨⟨m,B⟩,C⟩,dots.getD q .zero⟩]:=by rw[dF dn Gst.zero,bq];rfl
            generalize dots.getD q .zero=d9 at *
            obtain⟨dt,dr⟩:=d9
            have ap:=hid (fun W (hB:Below l.heap.size l W)=>show W.rangeAt db (aZ+q*2) [.int .i64 dt,.int .i64 dr] from cd ds dq hB)
            have eE:=hid du
            cases eD
            clear dq ds du
            go_upto_region 22 with fail
            clear z9
            have cp:wr.cell? ⟨l.heap.size,3,none⟩=some (.slice P M Y):=aD _ _ _ _ _ _ Z.out.st
            have F:=hid (Z.out.below (show Below wr.heap.size wr (wr.alloc (.cells #[.int .i64 m,.int .i64 B,.int .i64 C,.int .i64 dt,.int .i64 dr] 163)).drew from((ag _ _).alloc (aa _) _).drew))
            have cq:(wr.alloc (.cells #[.int .i64 m,.int .i64 B,.int .i64 C,.int .i64 dt,.int .i64 dr] 163)).drew.cell? ⟨l.heap.size,3,none⟩=some (.slice P M Y):=aD _ _ _ _ _ _ F.out.st
            have a3:(wr.alloc (.cells #[.int .i64 m,.int .i64 B,.int .i64 C,.int .i64 dt,.int .i64 dr] 163)).drew.heap.size=wr.heap.size+1:=by show(wr.alloc _).heap.size=_;simp
            have bn:=hid (fun (i:Nat) (y:Value) (h:([.int .i64 m,.int .i64 B,.int .i64 C,.int .i64 dt,.int .i64 dr]:List Value)[i]? =some y)=>dH wr [.int .i64 m,.int .i64 B,.int .i64 C,.int .i64 dt,.int .i64 dr] 163 i y h)
            have aH:=hid (show ∀u∈([.int .i64 m,.int .i64 B,.int .i64 C,.int .i64 dt,.int .i64 dr]:List Value),u.oneCell'=true from fw (c:=#[.int .i64 m,.int .i64 B,.int .i64 C,.int .i64 dt,.int .i64 dr]) rfl)
            refine aR (S:=fun W'=>W'.heap[E]? =some (.cells #[.int .i64 kd,.int .i64 m,.int .i64 B,.int .i64 C,.int .i64 pt,.int .i64 pr,.int .i64 pi,.string nm,.bool dd,.slice (some ⟨db,aZ,none⟩) dots.length sc,.int .i64 ak,.int .i64 ar,.int .i64 ai,.int .i64 et,.int .i64 er,.int .i64 ei,.string tx,.slice eA G.length ec] 125 (0,0))∧W'.rangeAt db (aZ+q*2) [.int .i64 dt,.int .i64 dr]) (by kernel_rfl) ?_
            try(change wpAnyH _ _ _ _ _ _ _ _ (World.drew _))
            refine tk 0 (.pointer (some ⟨l.heap.size,3,none⟩)) ((show wr.drew.heap[E]? =_∧wr.drew.rangeAt _ _ _ from⟨Z.out.ke,ap.out wr Z.out.bl⟩)) ?_
            go_simp
            refine tk 2 (.pointer (some ⟨E,1,none⟩)) ((show wr.drew.heap[E]? =_∧wr.drew.rangeAt _ _ _ from⟨Z.out.ke,ap.out wr Z.out.bl⟩)) ?_
            go_simp
            refine wpAnyH_take (i:=3) (v:= .agg #[.int .i64 m,.int .i64 B,.int .i64 C]) rfl (by kernel_rfl) (by kernel_rfl) (by kernel_rfl) (fun _ _ _ h=>h) (aT (by rfl) _ _ rfl E (1) rfl [.int .i64 m,.int .i64 B,.int .i64 C] _ (fun W' au=>bv (pre:=[]) (mid:=[.int .i64 m,.int .i64 B,.int .i64 C]) (post:=[]) (bv (pre:=[.int .i64 kd]) (mid:=[.int .i64 m,.int .i64 B,.int .i64 C]) (post:=[.int .i64 pt,.int .i64 pr,.int .i64 pi,.string nm,.bool dd,.slice (some ⟨db,aZ,none⟩) dots.length sc,.int .i64 ak,.int .i64 ar,.int .i64 ai,.int .i64 et,.int .i64 er,.int .i64 ei,.string tx,.slice eA G.length ec]) (bf au.1))) aw rfl (by kernel_rfl)) ((show wr.drew.heap[E]? =_∧wr.drew.rangeAt _ _ _ from⟨Z.out.ke,ap.out wr Z.out.bl⟩)) ?_
            go_simp
            refine tk 4 (.pointer (some ⟨E,9,none⟩)) ((show wr.drew.heap[E]? =_∧wr.drew.rangeAt _ _ _ from⟨Z.out.ke,ap.out wr Z.out.bl⟩)) ?_
            go_simp
            refine wpAnyH_take (i:=5) (v:= .slice (some ⟨db,aZ,none⟩) dots.length sc) rfl (by kernel_rfl) (by kernel_rfl) (by kernel_rfl) (fun _ _ _ h=>h) (Or.inl ⟨by rfl,fun W' au=>by(have c_:W'.cell? ⟨E,9,none⟩=some (.slice (some ⟨db,aZ,none⟩) dots.length sc):=aD _ _ _ _ _ _ au.1;go_simp)⟩) ((show wr.drew.heap[E]? =_∧wr.drew.rangeAt _ _ _ from⟨Z.out.ke,ap.out wr Z.out.bl⟩)) ?_
            go_simp
            refine tk 6 (.int .i64 (q:Int)) ((show wr.drew.heap[E]? =_∧wr.drew.rangeAt _ _ _ from⟨Z.out.ke,ap.out wr Z.out.bl⟩)) ?_
            go_simp
            refine tk 7 (.pointer (some ⟨db,aZ+q*2,none⟩)) ((show wr.drew.heap[E]? =_∧wr.drew.rangeAt _ _ _ from⟨Z.out.ke,ap.out wr Z.out.bl⟩)) ?_
            go_simp
            refine wpAnyH_take (i:=8) (v:= .agg #[.int .i64 dt,.int .i64 dr]) rfl (by kernel_rfl) (by kernel_rfl) (by kernel_rfl) (fun _ _ _ h=>h) (aT (by rfl) _ _ rfl db (aZ+q*2) rfl [.int .i64 dt,.int .i64 dr] _ (fun W' au=>bv (pre:=[]) (mid:=[.int .i64 dt,.int .i64 dr]) (post:=[]) (au.2)) cb rfl (by kernel_rfl)) ((show wr.drew.heap[E]? =_∧wr.drew.rangeAt _ _ _ from⟨Z.out.ke,ap.out wr Z.out.bl⟩)) ?_
            go_simp
            refine tk 9 (.agg #[.int .i64 m,.int .i64 B,.int .i64 C,.int .i64 dt,.int .i64 dr]) ((show wr.drew.heap[E]? =_∧wr.drew.rangeAt _ _ _ from⟨Z.out.ke,ap.out wr Z.out.bl⟩)) ?_
            go_simp
            refine dp (rs:=[1,10]) (by kernel_rfl) (by simp) ?_
            refine aX rfl (fun K N=> ?_) (aX rfl (fun K N=> ?_) cX)
            focus
             go_simp
             refine N.out _ _ ((show wr.drew.heap[E]? =_∧wr.drew.rangeAt _ _ _ from⟨Z.out.ke,ap.out wr Z.out.bl⟩)) (fun _=> ?_)
             clear N K
             refine dp (rs:=[10]) (by kernel_rfl) (by simp) ?_
             refine aX rfl (fun K N=> ?_) cX
             go_simp
             refine N.out _ _ (⟨F.out.ke,ap.out _ F.out.bl⟩) (fun _=> ?_)
             clear N K
            rotate_left
            focus
             go_simp
             refine N.out _ _ (⟨F.out.ke,ap.out _ F.out.bl⟩) (fun _=> ?_)
             clear N K
             refine dp (rs:=[1]) (by kernel_rfl) (by simp) ?_
             refine aX rfl (fun K N=> ?_) cX
             go_simp
             refine N.out _ _ (⟨F.out.ke,ap.out _ F.out.bl⟩) (fun _=> ?_)
             clear N K
            all_goals
             refine dp (rs:=[11]) (by kernel_rfl) (by simp) ?_
             refine aX rfl (fun K N=> ?_) cX
             refine dW _ (by rfl) _ _ 102 (by rfl) R.heap.size 163 iD (.agg #[.int .i64 0,.int .i64 0,.int .i64 0,.int .i64 0,.int .i64 0]) 5 40 Tryz.underlying102 hd cE cF cG rfl (by decide) (.slice P M Y) M _ (by rfl) (by exact F.out.ol) ⟨wr.heap.size,0,none⟩ 1 1 [.int .i64 m,.int .i64 B,.int .i64 C,.int .i64 dt,.int .i64 dr] (by rfl) (by rfl) (by exact bn.out) aH.out (by decide) (by unfold maxLen;omega) (by omega) (by exact F.out.sz) (wr.heap.size+1) a3 ?_
             intro gq a4 w6 av al aB bw
             have an:=hid (F.out.app_l ⟨⟨⟨m,B⟩,C⟩,⟨dt,dr⟩⟩ (by exact av) al (by rw[a3];exact aB))
             have cr:w6.cell? ⟨l.heap.size,3,none⟩=some (.slice P M Y):=aD _ _ _ _ _ _ an.out.st
             have cs:w6.frozen? ⟨l.heap.size,3,none⟩=false:=aW _ _ _ _ _ an.out.st
             have aJ:=hid (an.out.put 3 (.slice (some ⟨gq,0,none⟩) (M+1) a4) rfl)
             clear av al aB bw cp cq
             refine N.out _ _ (⟨an.out.ke,ap.out _ an.out.bl⟩) (fun _=> ?_)
             clear N K
             refine tk 12 (.pointer (some ⟨l.heap.size,3,none⟩)) (⟨an.out.ke,ap.out _ an.out.bl⟩) ?_
             go_simp
             refine dp (rs:=[13]) (by kernel_rfl) (by simp) ?_
             refine aX rfl (fun K N=> ?_) cX
             go_simp
             refine N.out _ _ (⟨aJ.out.ke,ap.out _ aJ.out.bl⟩) (fun _=> ?_)
             clear N K
             refine be (by kernel_rfl) ?_ _
             go_simp
             generalize w6.setCell ⟨l.heap.size,3,none⟩ (.slice (some ⟨gq,0,none⟩) (M+1) a4)=V at *
             have ao:=hid aJ.out
             clear aJ an F bn aH a3 cr cs
             go_wp2
             go_roundg (dots.length-(q+1))
             case measure=>omega
             case rel=>exact⟨q+1,some ⟨gq,0,none⟩,a4,M+1,by omega,by go_num,by omega,hid (by rw[eE.out,←aG];exact ao.out)⟩
           ·obtain rfl:q=dots.length:=by omega
            have l2:¬(dots.length:Int)<(dots.length:Int):=by omega
            have a5:=Z.out
            rw[aK] at a5
            have a5:=hid (show OfI R.heap.size l.heap.size aI E H D (.cells #[.int .i64 kd,.int .i64 m,.int .i64 B,.int .i64 C,.int .i64 pt,.int .i64 pr,.int .i64 pi,.string nm,.bool dd,.slice sA dots.length sc,.int .i64 ak,.int .i64 ar,.int .i64 ai,.int .i64 et,.int .i64 er,.int .i64 ei,.string tx,.slice eA G.length ec] 125 (0,0)) (.slice H D.length ae) (.slice O J U) (.slice P M Y) l wr (.slice aA na ac) (.slice tA nt tc) (.slice O J U) (.slice P M Y) na nt J M (aP++upto (oAt true ⟨t,r⟩ ops) (j+1)) (aS++upto (oTl true ops) (j+1)) (aU++upto (oHv true ⟨t,r⟩ ops) (j+1)) (aV++upto (oLs true ops) (j+1)) by rw[dj.out,dk.out,dl.out,di.out];exact a5)
            go_wp2
            go_roundg (ops.length-(j+1))
            case measure=>omega
            case rel=>exact⟨j+1,aA,tA,O,P,ac,na,tc,nt,U,J,Y,M,E,(.cells #[.int .i64 kd,.int .i64 m,.int .i64 B,.int .i64 C,.int .i64 pt,.int .i64 pr,.int .i64 pi,.string nm,.bool dd,.slice sA dots.length sc,.int .i64 ak,.int .i64 ar,.int .i64 ai,.int .i64 et,.int .i64 er,.int .i64 ei,.string tx,.slice eA G.length ec] 125 (0,0)),by omega,trivial,by go_num,rfl,rfl,by omega,by omega,by omega,by omega,a5⟩
         | false=>
          have z9:W3.cell? ⟨E,9,none⟩=some (.slice sA dots.length sc):=aD _ _ _ _ _ _ aN.out.ke
          have a5:=hid (show OfI R.heap.size l.heap.size aI E H D (.cells #[.int .i64 kd,.int .i64 m,.int .i64 B,.int .i64 C,.int .i64 pt,.int .i64 pr,.int .i64 pi,.string nm,.bool dd,.slice sA dots.length sc,.int .i64 ak,.int .i64 ar,.int .i64 ai,.int .i64 et,.int .i64 er,.int .i64 ei,.string tx,.slice eA G.length ec] 125 (0,0)) (.slice H D.length ae) (.slice O J U) (.slice P M Y) l W3 (.slice aA na ac) (.slice tA nt tc) (.slice O J U) (.slice P M Y) na nt J M (aP++upto (oAt false ⟨t,r⟩ ops) (j+1)) (aS++upto (oTl false ops) (j+1)) (aU++upto (oHv false ⟨t,r⟩ ops) (j+1)) (aV++upto (oLs false ops) (j+1)) by rw[dj.out,dk.out,dl.out,di.out];simpa using aN.out)
          go_loopg [10] 0 (fun g2 i wr=>i= .int .i64 0∧W3=wr)
          case atStart=>exact⟨rfl,rfl⟩
          case round=>
           obtain⟨rfl,rfl⟩:=hrel
           by_cases eZ:0<dots.length
           ·have l2:(0:Int)<(dots.length:Int):=by omega
            go_wp2
            go_roundg (ops.length-(j+1))
            case measure=>omega
            case rel=>exact⟨j+1,aA,tA,O,P,ac,na,tc,nt,U,J,Y,M,E,(.cells #[.int .i64 kd,.int .i64 m,.int .i64 B,.int .i64 C,.int .i64 pt,.int .i64 pr,.int .i64 pi,.string nm,.bool dd,.slice sA dots.length sc,.int .i64 ak,.int .i64 ar,.int .i64 ai,.int .i64 et,.int .i64 er,.int .i64 ei,.string tx,.slice eA G.length ec] 125 (0,0)),by omega,trivial,by go_num,rfl,rfl,by omega,by omega,by omega,by omega,a5⟩
           ·have l2:¬(0:Int)<(dots.length:Int):=by omega
            go_wp2
            go_roundg (ops.length-(j+1))
            case measure=>omega
            case rel=>exact⟨j+1,aA,tA,O,P,ac,na,tc,nt,U,J,Y,M,E,(.cells #[.int .i64 kd,.int .i64 m,.int .i64 B,.int .i64 C,.int .i64 pt,.int .i64 pr,.int .i64 pi,.string nm,.bool dd,.slice sA dots.length sc,.int .i64 ak,.int .i64 ar,.int .i64 ai,.int .i64 et,.int .i64 er,.int .i64 ei,.string tx,.slice eA G.length ec] 125 (0,0)),by omega,trivial,by go_num,rfl,rfl,by omega,by omega,by omega,by omega,a5⟩
    ·obtain rfl:j=ops.length:=by omega
     have j2:¬(ops.length:Int)<(ops.length:Int):=by omega
     have aN:=Z.out
     rw[←eg.out,←eh.out,←ej.out,←ek.out] at aN
     have aN:=hid aN
     go_wp2
     go_roundg (L.length-(k+1))
     case measure=>omega
     case rel=>exact⟨k+1,aA,tA,O,P,ac,na,tc,nt,U,J,Y,M,ep,es,by omega,by go_num,rfl,rfl,by omega,by omega,by omega,by omega,aN⟩
  ·obtain rfl:k=L.length:=by omega
   have i2:¬(L.length:Int)<(L.length:Int):=by omega
   have dU:=hid ((Z.out.bl.block _ cO).trans cN.out)
   obtain⟨T,hT⟩:∃T,T=toldG L:=⟨_,rfl⟩
   have HT:=hid hT
   have a6:D=onG L:=bz.out
   have ao:=Z.out
   rw[show upto (gAt D L) L.length=T.map (·.a) by rw[hT,a6];exact(gTo_a _ _ _).symm,show upto (gTl D L) L.length=T.map (·.p) by rw[hT,a6];exact(gTo_p _ _ _).symm,show upto (gHv D L) L.length=ab by rw[a6];exact b7.out.symm,show upto (gLs D L) L.length=ad by rw[a6];exact b8.out.symm] at ao
   obtain rfl:na=T.length:=by have:=ao.ea;simpa using this
   obtain rfl:nt=T.length:=by have:=ao.et;simpa using this
   obtain rfl:J=ab.length:=ao.eh
   obtain rfl:M=ad.length:=ao.el
   have dw:=hid (ct (f:=idL) (z:=Gid.zero) (fun _=>rfl) (by simp) ao.oa)
   have dx:=hid (ct (f:=plcL) (z:=plc0) (fun _=>rfl) (by simp) ao.ot)
   have dy:=hid (ct (f:=dtL) (z:=dt0) (fun _=>rfl) rfl ao.oh)
   have dz:=hid (ct (f:=dtL) (z:=dt0) (fun _=>rfl) rfl ao.ol)
   have bm:=hid ao.st
   have a0:=hid ao.bl
   have e7:=ao.s2
   have eG:T.length≤40:=by omega
   have eH:=hid (show(toldG L).length≤40 by rw[←hT];exact eG)
   have dB:ab.length≤100000:=by omega
   have dC:ad.length≤100000:=by omega
   have eI:=hid (show gV L (fH T)=fN L by rw[hT];rfl)
   have e8:(fN L).length≤1600:=placeG_len hl b3.out eH.out
   have e9:=replayL_len T
   have dD:=hid (replay_any T aA tA ac tc _ _ wr (by omega) dw.out dx.out)
   have eJ:=hid (fun W (hB:Below wr.heap.size wr W)=>live_any ab ad O P U Y _ _ W dB dC (dy.out.below hB) (dz.out.below hB))
   have cv:=hid (fun W (hB:Below wr.heap.size wr W) pA pc S2 (hP:RowF W S2 pA 8 plcL plc0 (fH T))=>made_any L A1 c1 (fH T) pA pc S S2 W (by omega) (fun p hp=>aL (b3.out p hp) (by decide)) (by omega) (b9.out.below (a0.out.trans (hB.mono a0.out.size))) (fun p hp=>(cM.out p hp).agr (Agr.below (a0.out.trans (hB.mono a0.out.size)))) hP)
   rw[eI.out] at cv
   have dE:=hid (fun W qA qc vA vc S S2 (hP:RowF W S qA 8 plcL plc0 (fN L)) (hV:RowF W S2 vA 3 idL Gid.zero (gW ad ab)) (cw:(gW ad ab).length≤100000)=>items15_any (fN L) qA qc (gW ad ab) vA vc (fN L).length S S2 W (by omega) cw (fun p hp=>aL (d7.out p hp) (by decide)) (by rw[b7.out,b8.out];exact items_ok L) (by omega) hP hV)
   have eK:=hid (show itemsL (fN L).length (fN L) (gW ad ab)=aO by rw[b7.out,b8.out,d8.out];rfl)
   have cw:(gW ad ab).length≤100000:=by have:=liveL_len ad ab [];simp at this;unfold gW;omega
   rw[eK.out] at dE
   generalize eL:fN L=aC at *
   clear Z ao hT a6 eL dw dx a8 a9 bj ba
   go_upto_region 24 with(first
    |(go_at_call 111;refine dD.out.mono ?_;rintro e w6 ⟨pA,pc,rfl,bQ,dG⟩;have bR:=hid dG;have eM:=hid (ct (f:=plcL) (z:=plc0) (fun _=>rfl) rfl bQ);clear bQ dG)
    |(go_at_call 110;refine(cv.out w6 bR.out pA pc _ eM.out).mono ?_;rintro e w7 ⟨qA,qc,rfl,bS,dI⟩;have bo:=hid (bR.out.trans (dI.mono bR.out.size));have eN:=hid (ct (f:=plcL) (z:=plc0) (fun _=>rfl) rfl bS);have fa:=bR.out.size;have fb:=bo.out.size;have bT:=hid ((bo.out.block _ (lt_of_block bm.out)).trans bm.out);have s1:w7.cell? ⟨l.heap.size,1,none⟩=some (.slice none 0 0):=aD _ _ _ _ _ _ bT.out;have g1:w7.frozen? ⟨l.heap.size,1,none⟩=false:=aW _ _ _ _ _ bT.out;clear bS dI))
   obtain⟨w8,bU⟩:∃W,W=w7.setCell ⟨l.heap.size,1,none⟩ (.slice qA aC.length qc):=⟨_,rfl⟩
   rw[←bU]
   have bb:w7.grownBy w8 (some l.heap.size):=by rw[bU];exact eF _ _ _
   have af:=hid (show w8.heap[l.heap.size]? =some (.cells #[.slice H D.length ae,.slice qA aC.length qc,.slice O ab.length U,.slice P ad.length Y,.slice none 0 0] 105 (0,0)) by rw[bU];exact gI (c:=#[.slice H D.length ae,.slice none 0 0,.slice O ab.length U,.slice P ad.length Y,.slice none 0 0]) bT.out 1 _ rfl)
   have fc:=lt_of_block bm.out
   have fd:=bb.size
   have cx:=hid (show Below l.heap.size l w8 from(a0.out.trans (bo.out.mono a0.out.size)).grown bb (by have:=a0.out.size;omega) (fun b e=>by cases e;exact aa _))
   have dJ:=hid (show Agr (fun b=>R.heap.size≤b) wr w8 from(Agr.below bo.out).trans (Agr.grown bb fun g e1 e2=>by cases e1;have e2:R.heap.size≤l.heap.size:=e2;omega))
   have dK:=hid (dy.out.agr dJ.out)
   have dL:=hid (dz.out.agr dJ.out)
   have eO:=hid (eN.out.agr (Agr.grown bb fun g e1 e2=>by cases e1;have e2:w6.heap.size≤l.heap.size:=e2;omega))
   have eP:=hid ((bb.block _ (by omega) (fun e=>by injection e with e;omega)).trans ((bo.out.block _ (by have:=a0.out.size;omega)).trans dU.out))
   have dV:=hid (fun W (hB:Below w8.heap.size w8 W)=>live_any ab ad O P U Y _ _ W dB dC (dK.out.below hB) (dL.out.below hB))
   clear bU s1 g1 bT eJ dD cv bb
   refine aR (S:=fun W'=>W'.cell? ⟨l.heap.size,1,none⟩=some (.slice qA aC.length qc)∧W'.cell? ⟨l.heap.size,2,none⟩=some (.slice O ab.length U)∧W'.cell? ⟨l.heap.size,3,none⟩=some (.slice P ad.length Y)) (by kernel_rfl) ?_
   try(change wpAnyH _ _ _ _ _ _ _ _ (World.drew _))
   refine tk 0 (.pointer (some ⟨l.heap.size,1,none⟩)) ((show w8.drew.cell? _=_∧w8.drew.cell? _=_∧w8.drew.cell? _=_ from⟨aD _ _ _ _ _ _ af.out,aD _ _ _ _ _ _ af.out,aD _ _ _ _ _ _ af.out⟩)) ?_
   go_simp
   refine wpAnyH_take (i:=1) (v:= .slice qA aC.length qc) rfl (by kernel_rfl) (by kernel_rfl) (by kernel_rfl) (fun _ _ _ h=>h) (Or.inl ⟨by rfl,fun W' au=>by(have c_:W'.cell? ⟨l.heap.size,1,none⟩=some (.slice qA aC.length qc):=au.1;go_simp)⟩) ((show w8.drew.cell? _=_∧w8.drew.cell? _=_∧w8.drew.cell? _=_ from⟨aD _ _ _ _ _ _ af.out,aD _ _ _ _ _ _ af.out,aD _ _ _ _ _ _ af.out⟩)) ?_
   go_simp
   refine tk 2 (.pointer (some ⟨l.heap.size,2,none⟩)) ((show w8.drew.cell? _=_∧w8.drew.cell? _=_∧w8.drew.cell? _=_ from⟨aD _ _ _ _ _ _ af.out,aD _ _ _ _ _ _ af.out,aD _ _ _ _ _ _ af.out⟩)) ?_
   go_simp
   refine wpAnyH_take (i:=3) (v:= .slice O ab.length U) rfl (by kernel_rfl) (by kernel_rfl) (by kernel_rfl) (fun _ _ _ h=>h) (Or.inl ⟨by rfl,fun W' au=>by(have c_:W'.cell? ⟨l.heap.size,2,none⟩=some (.slice O ab.length U):=au.2.1;go_simp)⟩) ((show w8.drew.cell? _=_∧w8.drew.cell? _=_∧w8.drew.cell? _=_ from⟨aD _ _ _ _ _ _ af.out,aD _ _ _ _ _ _ af.out,aD _ _ _ _ _ _ af.out⟩)) ?_
   go_simp
   refine tk 4 (.pointer (some ⟨l.heap.size,3,none⟩)) ((show w8.drew.cell? _=_∧w8.drew.cell? _=_∧w8.drew.cell? _=_ from⟨aD _ _ _ _ _ _ af.out,aD _ _ _ _ _ _ af.out,aD _ _ _ _ _ _ af.out⟩)) ?_
   go_simp
   refine wpAnyH_take (i:=5) (v:= .slice P ad.length Y) rfl (by kernel_rfl) (by kernel_rfl) (by kernel_rfl) (fun _ _ _ h=>h) (Or.inl ⟨by rfl,fun W' au=>by(have c_:W'.cell? ⟨l.heap.size,3,none⟩=some (.slice P ad.length Y):=au.2.2;go_simp)⟩) ((show w8.drew.cell? _=_∧w8.drew.cell? _=_∧w8.drew.cell? _=_ from⟨aD _ _ _ _ _ _ af.out,aD _ _ _ _ _ _ af.out,aD _ _ _ _ _ _ af.out⟩)) ?_
   go_simp
   refine dp (rs:=[6]) (by kernel_rfl) (by simp) ?_
   refine aX rfl (fun K N=> ?_) cX
   go_simp
   go_at_call 113
   refine(dV.out w8.drew ((ag _ _).drew)).mono ?_
   rintro e w9 ⟨vA,vc,rfl,bV,dM⟩
   have bp:=hid (show Below w8.heap.size w8 w9 from((ag w8.heap.size w8).drew).trans dM)
   have eR:=hid (ct (f:=idL) (z:=Gid.zero) (fun _=>rfl) rfl bV)
   have cy:=hid ((bp.out.block _ (lt_of_block af.out)).trans af.out)
   clear bV dM
   refine N.out _ _ (⟨aD _ _ _ _ _ _ cy.out,aD _ _ _ _ _ _ cy.out,aD _ _ _ _ _ _ cy.out⟩) (fun _=> ?_)
   clear N K
   refine dp (rs:=[7]) (by kernel_rfl) (by simp) ?_
   refine aX rfl (fun K N=> ?_) cX
   go_simp
   go_at_call 112
   refine(dE.out w9 qA qc vA vc _ _ (eO.out.below bp.out) eR.out cw).mono ?_
   rintro e bW ⟨iA,ic,rfl,br,cz⟩
   have bs:=hid (bp.out.trans (cz.mono bp.out.size))
   have dX:=hid (ct (f:=itmL) (z:=itm0) (fun _=>rfl) rfl br)
   have ax:=hid ((bs.out.block _ (lt_of_block af.out)).trans af.out)
   have fe:=bp.out.size
   clear br cz
   refine N.out _ _ (⟨aD _ _ _ _ _ _ ax.out,aD _ _ _ _ _ _ ax.out,aD _ _ _ _ _ _ ax.out⟩) (fun _=> ?_)
   clear N K
   have ff:bW.cell? ⟨l.heap.size,4,none⟩=some (.slice none 0 0):=aD _ _ _ _ _ _ ax.out
   have fh:bW.frozen? ⟨l.heap.size,4,none⟩=false:=aW _ _ _ _ _ ax.out
   obtain⟨V,hV⟩:∃W,W=bW.setCell ⟨l.heap.size,4,none⟩ (.slice iA aO.length ic):=⟨_,rfl⟩
   have HV:=hid hV
   have bc:bW.grownBy V (some l.heap.size):=by rw[hV];exact eF _ _ _
   have bY:=hid (show V.heap[l.heap.size]? =some (.cells #[.slice H D.length ae,.slice qA aC.length qc,.slice O ab.length U,.slice P ad.length Y,.slice iA aO.length ic] 105 (0,0)) by rw[hV];exact gI (c:=#[.slice H D.length ae,.slice qA aC.length qc,.slice O ab.length U,.slice P ad.length Y,.slice none 0 0]) ax.out 4 _ rfl)
   clear hV
   refine tk 8 (.pointer (some ⟨l.heap.size,4,none⟩)) (⟨aD _ _ _ _ _ _ ax.out,aD _ _ _ _ _ _ ax.out,aD _ _ _ _ _ _ ax.out⟩) ?_
   go_simp
   refine dp (rs:=[9]) (by kernel_rfl) (by simp) ?_
   refine aX rfl (fun K N=> ?_) cX
   go_simp
   rw[←HV.out]
   refine N.out _ _ (⟨aD _ _ _ _ _ _ bY.out,aD _ _ _ _ _ _ bY.out,aD _ _ _ _ _ _ bY.out⟩) (fun _=> ?_)
   clear N K
   refine be (by kernel_rfl) ?_ _
   go_simp
   have fi:=bs.out.size
   have fj:=bc.size
   have dN:=hid ((bc.block _ (by omega) (fun e=>by injection e with e;omega)).trans ((bs.out.block _ (by omega)).trans eP.out))
   have cB:=hid (show Agr (fun b=>R.heap.size≤b) w8 V from(Agr.below bs.out).trans (Agr.grown bc fun g e1 e2=>by cases e1;have e2:R.heap.size≤l.heap.size:=e2;omega))
   have dY:=hid (dK.out.agr cB.out)
   have dZ:=hid (dL.out.agr cB.out)
   have eS:=hid (dX.out.agr (Agr.grown bc fun g e1 e2=>by cases e1;have e2:w9.heap.size≤l.heap.size:=e2;omega))
   have dO:=hid (show Below l.heap.size l V from(cx.out.trans (bs.out.mono (by have:=cx.out.size;omega))).grown bc (by have:=cx.out.size;omega) (fun b e=>by cases e;exact aa _))
   obtain⟨V2,bZ⟩:∃W,W=V.setRow w00.heap.size #[.slice H D.length ae,.slice qA aC.length qc,.slice O ab.length U,.slice P ad.length Y,.slice iA aO.length ic]:=⟨_,rfl⟩
   have eT:=hid bZ
   have bt:V.grownBy V2 (some w00.heap.size):=by rw[bZ];exact dR _ _ _
   have eU:=hid (show V2.heap[w00.heap.size]? =some (.cells #[.slice H D.length ae,.slice qA aC.length qc,.slice O ab.length U,.slice P ad.length Y,.slice iA aO.length ic] 105 (0,0)) by rw[bZ];exact aM _ dN.out)
   have d0:=hid (show(#[.slice H D.length ae,.slice qA aC.length qc,.slice O ab.length U,.slice P ad.length Y,.slice iA aO.length ic]:Array Value).toList.all (·.oneCell')=true by rfl)
   have eV:=hid (show RowF V2 (fun b=>w00.heap.size≤b) O 5 dtL dt0 ab from(dY.out.agr (Agr.grown bt fun g e1 e2=>by cases e1;have e2:R.heap.size≤w00.heap.size:=e2;omega)).sub fun b _ hb=>by have hb:R.heap.size≤b:=hb;omega)
   have eW:=hid (show RowF V2 (fun b=>w00.heap.size≤b) P 5 dtL dt0 ad from(dZ.out.agr (Agr.grown bt fun g e1 e2=>by cases e1;have e2:R.heap.size≤w00.heap.size:=e2;omega)).sub fun b _ hb=>by have hb:R.heap.size≤b:=hb;omega)
   have I:=hid (show RowF V2 (fun b=>w00.heap.size≤b) iA 6 itmL itm0 aO from(eS.out.agr (Agr.grown bt fun g e1 e2=>by cases e1;have e2:w9.heap.size≤w00.heap.size:=e2;omega)).sub fun b _ hb=>by have hb:w9.heap.size≤b:=hb;omega)
   have eX:=hid (show Below w00.heap.size w00 V2 from((ca.out.trans (dO.out.mono ca.out.size))).grown bt (by have:=ca.out.size;have:=dO.out.size;omega) (fun b e=>by cases e;exact aa _))
   clear bZ bc bt cB
   go_wp2_with (first
    |(refine cu rfl _ _ rfl l.heap.size _ _ _ rfl bY.out Tryz.underlying105 rfl ?_ ?_;kernel_rfl)
    |(refine da rfl _ _ _ rfl w00.heap.size 105 #[.slice none 0 0,.slice none 0 0,.slice none 0 0,.slice none 0 0,.slice none 0 0] #[.slice H D.length ae,.slice qA aC.length qc,.slice O ab.length U,.slice P ad.length Y,.slice iA aO.length ic] rfl rfl dN.out (by kernel_rfl) rfl d0.out ?_;rw[←eT.out]))
   try simp only[Exit.inBlock,Exit.then]
   refine bB (co rfl _ _ w00.heap.size _ _ (0,0) _ rfl eU.out Tryz.underlying105 rfl (by kernel_rfl)) rfl ?_
   exact⟨_,_,_,_,_,_,_,_,_,_,_,_,rfl,eV.out,eW.out,I.out,eX.out⟩
end
end Go.Proofs.YtkhmicndehlneaaGreatDoor
