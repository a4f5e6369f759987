/- Part 16 of the walks and plain laws that this claim uses, joined. Conditions: as each theorem states. -/
import Derived.Test.YtkhmicndehlneaaGreatDoorYto
namespace Go.Proofs.YtkhmicndehlneaaGreatDoor
set_option maxRecDepth 100000
set_option maxHeartbeats 16000000
section
open Go.RowKit Go.Lib Go.Sort
set_option linter.unusedVariables false
attribute [local go_sem ↓] Go.wp_at_zero Go.wp_at_succ
def stepL (G:List Dt) (out:List Gid) (d:Dt):List Gid:=if (G.any (fun y=>y.eqb d) || out.any (fun y=>y.eqb d.n))=true then out else insB (fun y=>d.n.lt y) Gid.zero out d.n
def liveL (G l:List Dt):List Gid:=l.foldl (stepL G) []
def stepO (G:List Dt) (x:Gid) (out:List Gst) (d:Dt):List Gst:=if (!(d.n.eqb x) || G.any (fun y=>y.eqb d) || out.any (fun y=>y.eqb d.b))=true then out else insB (fun y=>d.b.lt y) Gst.zero out d.b
def ofL (G:List Dt) (x:Gid) (l:List Dt):List Gst:=l.foldl (stepO G x) []
theorem stepL_len (G:List Dt) (out:List Gid) (d:Dt):(stepL G out d).length≤out.length+1:=by
 unfold stepL
 split
 ·omega
 ·rw[insB_len];exact Nat.le_refl _
theorem stepO_len (G:List Dt) (x:Gid) (out:List Gst) (d:Dt):(stepO G x out d).length≤out.length+1:=by
 unfold stepO
 split
 ·omega
 ·rw[insB_len];exact Nat.le_refl _
theorem liveL_len (G:List Dt):∀(l:List Dt) (out:List Gid),(l.foldl (stepL G) out).length≤out.length+l.length
 | [],out=>Nat.le_refl _
 |d::l,out=>by
  have h1:=liveL_len G l (stepL G out d)
  have h2:=stepL_len G out d
  rw[List.foldl_cons,List.length_cons];omega
theorem ofL_len (G:List Dt) (x:Gid):∀(l:List Dt) (out:List Gst),(l.foldl (stepO G x) out).length≤out.length+l.length
 | [],out=>Nat.le_refl _
 |d::l,out=>by
  have h1:=ofL_len G x l (stepO G x out d)
  have h2:=stepO_len G x out d
  rw[List.foldl_cons,List.length_cons];omega
theorem live_any (L G:List Dt) (A A2:Option Addr) (c c2:Nat) (S S2:Nat→Prop) (w:World) (hl:L.length≤100000) (hl2:G.length≤100000) (hR:RowF w S A 5 dtL dt0 L) (hR2:RowF w S2 A2 5 dtL dt0 G):
  Calls Tryz.prog 113 #[.slice A L.length c,.slice A2 G.length c2] w fun e w'=>∃A' c',e= .returned (.slice A' (liveL G L).length c')∧w'.ownsRow w.heap.size 108 3 (.slice A' (liveL G L).length c') (liveL G L).length ((liveL G L).flatMap idL)∧Below w.heap.size w w':=by
 obtain⟨i0,hi,hz0,hz1,hz2⟩:=info_parts info_id
 have HR:=hid hR
 have HR2:=hid hR2
 clear hR hR2
 go_enter Tryz.func113,Tryz.ntmps113
 go_upto_region 3 with fail
 go_loopw [5,6] (fun o i wr=>∃(k:Nat) (A':Option Addr) (c' m:Nat) (M:List Gid),k≤L.length∧i= .int .i64 k∧o= .slice A' m c'∧m≤k∧Hid (m=M.length)∧Hid (M=liveL G (L.take k))∧Hid (wr.ownsRow w.heap.size 108 3 (.slice A' m c') m (M.flatMap idL))∧Hid (Below w.heap.size w wr)) (fun o i _=>L.length-(RowKit.intOf i).toNat)
 case atStart=>exact⟨0,none,0,0,[],Nat.zero_le _,rfl,rfl,Nat.le_refl _,hid rfl,hid rfl,hid (World.ownsRow_nil _ _ _ _),hid (Below.refl _ _)⟩
 case round=>
  obtain⟨k,A',c',m,M,hk,rfl,rfl,hmk,HML,HM,HO,HBr⟩:=hrel
  by_cases hlt:k<L.length
  ·have i1:(0:Int)≤(k:Int):=by omega
   have i2:(k:Int)<(L.length:Int):=by omega
   obtain⟨rb,ro,rfl,-,hrb,hrange⟩:=HR.out.range (fun _=>rfl) hlt
   have hst:liveL G (L.take (k+1))=stepL G M (L.getD k dt0):=by rw[HM.out];exact foldl_take _ _ hlt dt0
   generalize L.getD k dt0=p at *
   obtain⟨⟨⟨t,r⟩,n⟩,⟨bt,br⟩⟩:=p
   have HRW:=hid (fun W (hB:Below w.heap.size w W)=>show W.rangeAt rb (ro+k*5) [.int .i64 t,.int .i64 r,.int .i64 n,.int .i64 bt,.int .i64 br] from rangeB hrange hrb hB)
   have HST:=hid hst
   have hsz:=HBr.out.size
   have hm63:m≤100000:=by omega
   clear hrange hrb hst
   obtain⟨b1,hb1⟩:∃b,b=G.any (fun y=>y.eqb ⟨⟨⟨t,r⟩,n⟩,⟨bt,br⟩⟩):=⟨_,rfl⟩
   obtain⟨b3,hb3⟩:∃b,b=M.any (fun y=>y.eqb ⟨⟨t,r⟩,n⟩):=⟨_,rfl⟩
   have HHD:=hid (fun W (hB:Below w.heap.size w W)=>show Calls Tryz.prog 174 #[.slice A2 G.length c2,.agg #[.int .i64 t,.int .i64 r,.int .i64 n,.int .i64 bt,.int .i64 br]] W fun e w'=>e= .returned (.bool b1)∧Below W.heap.size W w' from by rw[hb1];exact hasdot_any G A2 c2 ⟨⟨⟨t,r⟩,n⟩,⟨bt,br⟩⟩ S2 W (by omega) (HR2.out.below hB))
   have HHI:=hid (fun W (hB:Below wr.heap.size wr W)=>show Calls Tryz.prog 173 #[.slice A' m c',.agg #[.int .i64 t,.int .i64 r,.int .i64 n]] W fun e w'=>e= .returned (.bool b3)∧Below W.heap.size W w' from by
    have h9:=hasid_any M A' c' ⟨⟨t,r⟩,n⟩ _ W (by rw[←HML.out];omega) (ownN_rowF (f:=idL) (z:=Gid.zero) (fun _=>rfl) HML.out (HO.out.kept (gby_below (r:=none) hB) (Classical.em _)))
    rw[←HML.out,←hb3] at h9;exact h9)
   have HHI:=hid (fun W (hB:Below wr.heap.size wr W)=>HHI.out W hB)
   have HST:=hid (show liveL G (L.take (k+1))=if (b1 || b3)=true then M else insB (fun y=>Gid.lt ⟨⟨t,r⟩,n⟩ y) Gid.zero M ⟨⟨t,r⟩,n⟩ by rw[HST.out,hb1,hb3];rfl)
   have HRX:=hid (show wr.rangeAt rb (ro+k*5) [.int .i64 t,.int .i64 r,.int .i64 n] from range_mid (pre:=[]) (post:=[.int .i64 bt,.int .i64 br]) (HRW.out wr HBr.out))
   clear hb1 hb3
   go_upto_region 6 with(first
    |(refine wpList_load_mid rfl _ _ rfl rb (ro+k*5) rfl [.int .i64 t,.int .i64 r,.int .i64 n] _ HRX.out Tryz.underlying108 rfl (by kernel_rfl) ?_)
    |(refine store_last rfl _ _ _ rfl _ _ _ _ rfl ?_ rfl ?_ ?_ ?_ ?_;(focus(simp;done));kernel_rfl;rfl;rfl))
   have hba:=HBr.out.alloc hsz (.cells #[.int .i64 t,.int .i64 r,.int .i64 n] 108)
   have hbx:Below wr.heap.size wr (wr.alloc (.cells #[.int .i64 t,.int .i64 r,.int .i64 n] 108)):=(Below.refl _ _).alloc (Nat.le_refl _) _
   have HCX:=hid (heap_alloc_new wr (.cells #[.int .i64 t,.int .i64 r,.int .i64 n] 108))
   generalize hW:wr.alloc (.cells #[.int .i64 t,.int .i64 r,.int .i64 n] 108)=W at *
   have HBW:=hid hba
   have HBX:=hid hbx
   have HRD:=hid (HRW.out W hba)
   have HOW:=hid (HO.out.kept (gby_below (r:=none) hbx) (Classical.em _))
   clear hW hba hbx
   cases b1 with
   | true=>
    have HS9:=hid (show liveL G (L.take (k+1))=M by rw[HST.out];rfl)
    go_wp2_with (first
     |(refine wpList_load_mid rfl _ _ rfl rb (ro+k*5) rfl [.int .i64 t,.int .i64 r,.int .i64 n,.int .i64 bt,.int .i64 br] _ HRD.out Tryz.underlying163 rfl (by kernel_rfl) ?_)
     |(go_at_call 174;refine(HHD.out W HBW.out).mono ?_;rintro e w3 ⟨rfl,hB3⟩;have HB3:=hid (HBW.out.trans (hB3.mono HBW.out.size));have HO3:=hid (HOW.out.kept (gby_below (r:=none) hB3) (Classical.em _));clear hB3))
    go_roundw
    case rel=>exact⟨k+1,A',c',m,M,by omega,by go_num,rfl,by omega,HML,hid HS9.out.symm,HO3,HB3⟩
    case measure=>(simp[RowKit.intOf];omega)
   | false=>
    cases b3 with
    | true=>
     have HS9:=hid (show liveL G (L.take (k+1))=M by rw[HST.out];rfl)
     go_wp2_with (first
      |(refine wpList_load_mid rfl _ _ rfl rb (ro+k*5) rfl [.int .i64 t,.int .i64 r,.int .i64 n,.int .i64 bt,.int .i64 br] _ HRD.out Tryz.underlying163 rfl (by kernel_rfl) ?_)
      |(refine load_at rfl _ _ rfl wr.heap.size _ _ _ rfl HC2.out Tryz.underlying108 rfl ?_ ?_;kernel_rfl)
      |(go_at_call 174;refine(HHD.out W HBW.out).mono ?_;rintro e w2 ⟨rfl,hB2⟩;have HB2:=hid (HBW.out.trans (hB2.mono HBW.out.size));have HBY:=hid (HBX.out.trans (hB2.mono HBX.out.size));have HC2:=hid ((hB2.block _ (lt_of_block HCX.out)).trans HCX.out);have z0:w2.cell? ⟨wr.heap.size,0,none⟩=some (.int .i64 t):=cell_of_row _ _ _ _ _ _ HC2.out;have z1:w2.cell? ⟨wr.heap.size,1,none⟩=some (.int .i64 r):=cell_of_row _ _ _ _ _ _ HC2.out;have z2:w2.cell? ⟨wr.heap.size,2,none⟩=some (.int .i64 n):=cell_of_row _ _ _ _ _ _ HC2.out;clear hB2)
      |(go_at_call 173;refine(HHI.out w2 HBY.out).mono ?_;rintro e w3 ⟨rfl,hB3⟩;have HB3:=hid (HB2.out.trans (hB3.mono HB2.out.size));have HO3:=hid (HO.out.kept (gby_below (r:=none) (HBY.out.trans (hB3.mono HBY.out.size))) (Classical.em _));clear hB3))
     go_roundw
     case rel=>exact⟨k+1,A',c',m,M,by omega,by go_num,rfl,by omega,HML,hid HS9.out.symm,HO3,HB3⟩
     case measure=>(simp[RowKit.intOf];omega)
    | false=>
     have HS9:=hid (show liveL G (L.take (k+1))=insB (fun y:Gid=>Gid.lt ⟨⟨t,r⟩,n⟩ y) Gid.zero M ⟨⟨t,r⟩,n⟩ by rw[HST.out];rfl)
     go_upto_region 7 with(first
      |(refine wpList_load_mid rfl _ _ rfl rb (ro+k*5) rfl [.int .i64 t,.int .i64 r,.int .i64 n,.int .i64 bt,.int .i64 br] _ HRD.out Tryz.underlying163 rfl (by kernel_rfl) ?_)
      |(refine load_at rfl _ _ rfl wr.heap.size _ _ _ rfl HC2.out Tryz.underlying108 rfl ?_ ?_;kernel_rfl)
      |(go_at_call 174;refine(HHD.out W HBW.out).mono ?_;rintro e w2 ⟨rfl,hB2⟩;have HB2:=hid (HBW.out.trans (hB2.mono HBW.out.size));have HBY:=hid (HBX.out.trans (hB2.mono HBX.out.size));have HC2:=hid ((hB2.block _ (lt_of_block HCX.out)).trans HCX.out);have z0:w2.cell? ⟨wr.heap.size,0,none⟩=some (.int .i64 t):=cell_of_row _ _ _ _ _ _ HC2.out;have z1:w2.cell? ⟨wr.heap.size,1,none⟩=some (.int .i64 r):=cell_of_row _ _ _ _ _ _ HC2.out;have z2:w2.cell? ⟨wr.heap.size,2,none⟩=some (.int .i64 n):=cell_of_row _ _ _ _ _ _ HC2.out;clear hB2)
      |(go_at_call 173;refine(HHI.out w2 HBY.out).mono ?_;rintro e w3 ⟨rfl,hB3⟩;have HB3:=hid (HB2.out.trans (hB3.mono HB2.out.size));have HO3:=hid (HO.out.kept (gby_below (r:=none) (HBY.out.trans (hB3.mono HBY.out.size))) (Classical.em _));have HC3:=hid ((hB3.block _ (lt_of_block HC2.out)).trans HC2.out);clear hB3))
     have hsz3:=HB3.out.size
     go_upto_region 9 with(first
      |(refine load_at rfl _ _ rfl wr.heap.size _ _ _ rfl HC3.out Tryz.underlying108 rfl ?_ ?_;kernel_rfl)
      |(at_builtin;refine wpList_append_lies _ rfl _ _ 123 rfl w.heap.size 108 i0 (.agg #[.int .i64 0,.int .i64 0,.int .i64 0]) 3 24 Tryz.underlying123 hi hz0 hz1 hz2 rfl (by decide) (.slice A' m c') m _ rfl (by exact HO3.out.alloc _) ⟨w3.heap.size,0,none⟩ 1 1 [.int .i64 t,.int .i64 r,.int .i64 n] rfl rfl (fun j y h=>cellsN w3 [.int .i64 t,.int .i64 r,.int .i64 n] 108 j y h) (oc_of (c:=#[.int .i64 t,.int .i64 r,.int .i64 n]) rfl) (by decide) (by unfold maxLen;omega) (by omega) (by simp;omega) (w3.heap.size+1) (by simp) ?_;intro gq cap w5 hown hgrow ha hlt5;have HO5:=hid hown;have HB5:=hid ((HB3.out.alloc hsz3 _).grown hgrow (by simp;omega) (fun b hb=>(HO3.out.lt b hb).1));clear hown hgrow ha hlt5))
     clear HHD HHI HCX HBW HBX HRD HOW HB2 HBY HC2 HB3 HO3 HC3 HRX hsz3
     have hs9:slid M (⟨⟨t,r⟩,n⟩:Gid) m=M++[⟨⟨t,r⟩,n⟩]:=by rw[HML.out];exact slid_end _ _
     have HO6:=hid (show w5.ownsRow w.heap.size 108 3 (.slice (some ⟨gq,0,none⟩) (m+1) cap) (m+1) ((slid M (⟨⟨t,r⟩,n⟩:Gid) m).flatMap idL) by rw[hs9,List.flatMap_append];exact HO5.out)
     clear hs9 HO5
     generalize w5=w6 at *
     go_loopw [8] (fun i wx=>∃(q:Nat),i= .int .i64 q∧q≤m∧Hid (insIx (fun y:Gid=>Gid.lt ⟨⟨t,r⟩,n⟩ y) .zero M q=insIx (fun y:Gid=>Gid.lt ⟨⟨t,r⟩,n⟩ y) .zero M M.length)∧Hid (wx.ownsRow w.heap.size 108 3 (.slice (some ⟨gq,0,none⟩) (m+1) cap) (m+1) ((slid M (⟨⟨t,r⟩,n⟩:Gid) q).flatMap idL))∧Hid (Below w.heap.size w wx)) (fun i _=>(RowKit.intOf i).toNat)
     case atStart=>exact⟨m,rfl,Nat.le_refl _,hid (by rw[HML.out]),HO6,HB5⟩
     case round=>
      obtain⟨q,rfl,hq,HIX,HOq,HBq⟩:=hrel
      by_cases h0:0<q
      ·obtain⟨q,rfl⟩:∃p,q=p+1:=⟨q-1,by omega⟩
       have hqm:q+1≤M.length:=by rw[←HML.out];exact hq
       have hl1:m+1=(slid M (⟨⟨t,r⟩,n⟩:Gid) (q+1)).length:=by rw[slid_len,←HML.out]
       obtain⟨g3,e3,-,hg3,hr3⟩:=ownN_range (f:=idL) (fun _=>rfl) hl1 HOq.out (k:=q) (by omega) .zero
       cases e3
       obtain⟨g4,e4,-,-,hr4⟩:=ownN_range (f:=idL) (fun _=>rfl) hl1 HOq.out (k:=q+1) (by omega) .zero
       cases e4
       rw[slid_pre hqm] at hr3
       rw[slid_at hqm] at hr4
       have hsw:=slid_swap (L:=M) (x:=(⟨⟨t,r⟩,n⟩:Gid)) (z:= .zero) hqm
       obtain⟨y,hy⟩:∃y,y=M.getD q .zero:=⟨_,rfl⟩
       rw[←hy] at hr3 hsw
       obtain⟨b2,hb2⟩:∃b,b=(fun y:Gid=>Gid.lt ⟨⟨t,r⟩,n⟩ y) y:=⟨_,rfl⟩
       have HPY:=hid (show(fun y:Gid=>Gid.lt ⟨⟨t,r⟩,n⟩ y) (M.getD q .zero)=b2 by rw[←hy,hb2])
       clear hy
       obtain⟨⟨t2,r2⟩,n2⟩:=y
       have HR3:=hid (show wr.rangeAt gq (q*3) [.int .i64 t2,.int .i64 r2,.int .i64 n2] from hr3)
       have HR4:=hid (show wr.rangeAt gq ((q+1)*3) [.int .i64 t,.int .i64 r,.int .i64 n] from hr4)
       have y0:=cell_regrown (w:=wr) (a:=⟨gq,q*3,none⟩) (v:= .int .i64 t2) (hr3 0 _ rfl)
       have y1:=cell_regrown (w:=wr) (a:=⟨gq,q*3+1,none⟩) (v:= .int .i64 r2) (hr3 1 _ rfl)
       have y2:=cell_regrown (w:=wr) (a:=⟨gq,q*3+2,none⟩) (v:= .int .i64 n2) (hr3 2 _ rfl)
       have x0:=cell_regrown (w:=wr) (a:=⟨gq,(q+1)*3,none⟩) (v:= .int .i64 t) (hr4 0 _ rfl)
       have x1:=cell_regrown (w:=wr) (a:=⟨gq,(q+1)*3+1,none⟩) (v:= .int .i64 r) (hr4 1 _ rfl)
       have x2:=cell_regrown (w:=wr) (a:=⟨gq,(q+1)*3+2,none⟩) (v:= .int .i64 n) (hr4 2 _ rfl)
       have HSW:=hid hsw
       have k1:(0:Int)<(q:Int)+1:=by omega
       have k2:(0:Int)≤(q:Int):=by omega
       have k3:(q:Int)<(m:Int)+1:=by omega
       have k4:(q:Int)+1<(m:Int)+1:=by omega
       have k5:(0:Int)≤(q:Int)+1:=by omega
       have k6:IntKind.i64.wrap (q:Int)=(q:Int):=by rw[IntKind.wrap_i64];omega
       have HL1:=hid hl1
       have HBF:=fun W=>refcmpid_any t r n t2 r2 n2 W
       obtain⟨zc,hzc⟩:∃z,z=rcmpD ⟨⟨t,r⟩,n⟩ ⟨⟨t2,r2⟩,n2⟩:=⟨_,rfl⟩
       rw[←hzc] at HBF
       have hz2:decide (0≤zc)= !b2:=by rw[hzc,rcmpD_ge,hb2]
       have hz3:decide (zc<0)=b2:=by cases b2<;>simp at hz2 ⊢ <;>omega
       clear hzc hz2
       have cA:=fun d os=>Calls.regrown_of (HBF (grow (redrawn wr d) os))
       clear hr3 hr4 hb2 hsw hl1
       cases b2 with
       |false=>
        go_upto_region 9 with fail
        refine rqb ?_
        repeat(any_goals(first|go_big_quiet_step (with_reducible exact cA _ _)|quiet_step (with_reducible exact cA _ _)))
        refine qz fun wq hBq=> ?_
        have HS8:=hid (show liveL G (L.take (k+1))=slid M (⟨⟨t,r⟩,n⟩:Gid) (q+1) by rw[HS9.out];unfold insB;rw[←HIX.out,insIx_stop (.inr ⟨q,rfl,HPY.out⟩)])
        have HOx:=hid (HOq.out.kept (gby_below (r:=none) hBq) (Classical.em _))
        have HBx:=hid (HBq.out.trans (hBq.mono HBq.out.size))
        go_wp2
        go_roundw
        case rel=>exact⟨k+1,some ⟨gq,0,none⟩,cap,m+1,_,by omega,by go_num,rfl,by omega,HL1,hid HS8.out.symm,HOx,HBx⟩
        case measure=>(simp[RowKit.intOf];omega)
       | true=>
        go_upto_region 9 with fail
        refine rqb ?_
        repeat(any_goals(first|go_big_quiet_step (with_reducible exact cA _ _)|quiet_step (with_reducible exact cA _ _)))
        refine qz fun wq hBq=> ?_
        have HIX2:=hid (show insIx (fun y:Gid=>Gid.lt ⟨⟨t,r⟩,n⟩ y) .zero M q=insIx (fun y:Gid=>Gid.lt ⟨⟨t,r⟩,n⟩ y) .zero M M.length by rw[←HIX.out,insIx_go HPY.out])
        have HR3q:=hid (rangeB HR3.out hg3 hBq)
        have HR4q:=hid (rangeB HR4.out hg3 hBq)
        have HOq2:=hid (HOq.out.kept (gby_below (r:=none) hBq) (Classical.em _))
        have HBq2:=hid (HBq.out.trans (hBq.mono HBq.out.size))
        clear y0 y1 y2 x0 x1 x2 cA HOq hBq
        go_upto_region 11 with fail
        obtain⟨V1,hV1⟩:∃V,V=wq.drew.setCells gq ((q+1)*3) (#[.int .i64 t2,.int .i64 r2,.int .i64 n2]:Array Value).toList:=⟨_,rfl⟩
        have hP1:V1.ownsRow w.heap.size 108 3 (.slice (some ⟨gq,0,none⟩) (m+1) cap) (m+1) (((slid M (⟨⟨t,r⟩,n⟩:Gid) (q+1)).set (q+1) (⟨⟨t2,r2⟩,n2⟩:Gid)).flatMap idL)∧wq.drew.grownBy V1 (some gq):=by rw[hV1];exact ownN_put (f:=idL) (fun _=>rfl) (by decide) HL1.out (show wq.drew.ownsRow _ _ _ _ _ _ from HOq2.out) (by omega) (⟨⟨t2,r2⟩,n2⟩:Gid)
        obtain⟨V2,hV2⟩:∃V,V=V1.setCells gq (q*3) (#[.int .i64 t,.int .i64 r,.int .i64 n]:Array Value).toList:=⟨_,rfl⟩
        have hP2:V2.ownsRow w.heap.size 108 3 (.slice (some ⟨gq,0,none⟩) (m+1) cap) (m+1) ((((slid M (⟨⟨t,r⟩,n⟩:Gid) (q+1)).set (q+1) (⟨⟨t2,r2⟩,n2⟩:Gid)).set q (⟨⟨t,r⟩,n⟩:Gid)).flatMap idL)∧V1.grownBy V2 (some gq):=by rw[hV2];exact ownN_put (f:=idL) (fun _=>rfl) (by decide) (by rw[List.length_set];exact HL1.out) hP1.1 (by omega) (⟨⟨t,r⟩,n⟩:Gid)
        obtain⟨g5,e5,ht5⟩:=own_there (show wq.drew.ownsRow _ _ _ _ _ _ from HOq2.out) (k:=q+1) (by omega)
        cases e5
        obtain⟨g6,e6,ht6⟩:=own_there hP1.1 (k:=q) (by omega)
        cases e6
        have HP2:=hid hP2.1
        have HG2:=hid (show wq.heap.size≤V2.heap.size∧(Below w.heap.size w wq→w.heap.size≤gq→Below w.heap.size w V2) from⟨Nat.le_trans (show wq.drew.heap.size≤V1.heap.size from hP1.2.size) hP2.2.size,fun hb hl=>(hb.drew.grown hP1.2 (by exact hb.size) (fun b e=>by cases e;exact hl)).grown hP2.2 (Nat.le_trans hb.size (show wq.drew.heap.size≤V1.heap.size from hP1.2.size)) (fun b e=>by cases e;exact hl)⟩)
        have HV1:=hid hV1
        have HV2:=hid hV2
        have HT5:=hid ht5
        have HT6:=hid ht6
        have HAY:=hid (show(#[.int .i64 t2,.int .i64 r2,.int .i64 n2]:Array Value).all (·.oneCell')=true by rw[←Array.all_toList];rfl)
        have HAX:=hid (show(#[.int .i64 t,.int .i64 r,.int .i64 n]:Array Value).all (·.oneCell')=true by rw[←Array.all_toList];rfl)
        clear hP1 hP2 hV1 hV2 ht5 ht6
        refine wp_region_held (S:=fun _=>True) (by kernel_rfl) ?_
        try(change wpAnyH _ _ _ _ _ _ _ _ (World.drew _))
        refine tk 0 (.slice (some ⟨gq,0,none⟩) (m+1) cap) (trivial) ?_
        go_simp
        refine tk 1 (.int .i64 ((q:Int)+1)) (trivial) ?_
        go_simp
        refine tk 2 (.slice (some ⟨gq,0,none⟩) (m+1) cap) (trivial) ?_
        go_simp
        refine tk 3 (.int .i64 ((q:Int)+1)) (trivial) ?_
        go_simp
        refine tk 4 (.int .i64 (q:Int)) (trivial) ?_
        go_simp
        refine tk 5 (.slice (some ⟨gq,0,none⟩) (m+1) cap) (trivial) ?_
        go_simp
        refine tk 6 (.int .i64 ((q:Int)+1)) (trivial) ?_
        go_simp
        refine tk 7 (.int .i64 (q:Int)) (trivial) ?_
        go_simp
        refine tk 8 (.pointer (some ⟨gq,q*3,none⟩)) (trivial) ?_
        go_simp
        refine tk 10 (.slice (some ⟨gq,0,none⟩) (m+1) cap) (trivial) ?_
        go_simp
        refine tk 11 (.int .i64 ((q:Int)+1)) (trivial) ?_
        go_simp
        refine tk 12 (.pointer (some ⟨gq,(q+1)*3,none⟩)) (trivial) ?_
        go_simp
        refine wpAnyH_ready (rs:=[9,13]) (by kernel_rfl) (by simp) ?_
        refine AllReadyH.cons rfl (fun K hK=> ?_) (AllReadyH.cons rfl (fun K hK=> ?_) AllReadyH.nil)
        focus
         refine step_load_mid rfl _ _ rfl gq (q*3) rfl [.int .i64 t2,.int .i64 r2,.int .i64 n2] _ (show wq.drew.rangeAt _ _ _ from HR3q.out) Tryz.underlying108 rfl (by kernel_rfl) ?_
         refine hK.out _ _ (trivial) (fun _=> ?_)
         clear hK K
         refine wpAnyH_ready (rs:=[13]) (by kernel_rfl) (by simp) ?_
         refine AllReadyH.cons rfl (fun K hK=> ?_) AllReadyH.nil
         refine step_load_mid rfl _ _ rfl gq ((q+1)*3) rfl [.int .i64 t,.int .i64 r,.int .i64 n] _ (show wq.drew.rangeAt _ _ _ from HR4q.out) Tryz.underlying108 rfl (by kernel_rfl) ?_
         refine hK.out _ _ (trivial) (fun _=> ?_)
         clear hK K
        rotate_left
        focus
         refine step_load_mid rfl _ _ rfl gq ((q+1)*3) rfl [.int .i64 t,.int .i64 r,.int .i64 n] _ (show wq.drew.rangeAt _ _ _ from HR4q.out) Tryz.underlying108 rfl (by kernel_rfl) ?_
         refine hK.out _ _ (trivial) (fun _=> ?_)
         clear hK K
         refine wpAnyH_ready (rs:=[9]) (by kernel_rfl) (by simp) ?_
         refine AllReadyH.cons rfl (fun K hK=> ?_) AllReadyH.nil
         refine step_load_mid rfl _ _ rfl gq (q*3) rfl [.int .i64 t2,.int .i64 r2,.int .i64 n2] _ (show wq.drew.rangeAt _ _ _ from HR3q.out) Tryz.underlying108 rfl (by kernel_rfl) ?_
         refine hK.out _ _ (trivial) (fun _=> ?_)
         clear hK K
        all_goals
         refine tk 14 (.pointer (some ⟨gq,(q+1)*3,none⟩)) (trivial) ?_
         go_simp
         refine wpAnyH_ready (rs:=[15]) (by kernel_rfl) (by simp) ?_
         refine AllReadyH.cons rfl (fun K hK=> ?_) AllReadyH.nil
         refine step_store_mid rfl _ _ _ rfl gq ((q+1)*3) #[.int .i64 t2,.int .i64 r2,.int .i64 n2] (by rfl) (by rfl) HT5.out (by kernel_rfl) HAY.out ?_
         rw[←HV1.out]
         refine hK.out _ _ (trivial) (fun _=> ?_)
         clear hK K
         refine tk 16 (.pointer (some ⟨gq,q*3,none⟩)) (trivial) ?_
         go_simp
         refine wpAnyH_ready (rs:=[17]) (by kernel_rfl) (by simp) ?_
         refine AllReadyH.cons rfl (fun K hK=> ?_) AllReadyH.nil
         refine step_store_mid rfl _ _ _ rfl gq (q*3) #[.int .i64 t,.int .i64 r,.int .i64 n] (by rfl) (by rfl) HT6.out (by kernel_rfl) HAX.out ?_
         rw[←HV2.out]
         refine hK.out _ _ (trivial) (fun _=> ?_)
         clear hK K
         refine wpAnyH_done (by kernel_rfl) ?_ _
         go_simp
         go_wp2
         go_roundw
         case rel=>exact⟨q,by go_num,by omega,HIX2,hid (by rw[←HSW.out];exact HP2.out),hid (HG2.out.2 HBq2.out (HOq2.out.lt gq rfl).1)⟩
         case measure=>(simp[RowKit.intOf];try omega)
      ·obtain rfl:q=0:=by omega
       go_upto_region 9 with fail
       refine rqb ?_
       repeat(any_goals(first|go_big_quiet_step (fail)|quiet_step (fail)))
       refine qz fun wq hBq=> ?_
       have HS8:=hid (show liveL G (L.take (k+1))=slid M (⟨⟨t,r⟩,n⟩:Gid) 0 by rw[HS9.out];unfold insB;rw[←HIX.out];rfl)
       have HL1:=hid (show m+1=(slid M (⟨⟨t,r⟩,n⟩:Gid) 0).length by rw[slid_len,←HML.out])
       have HOx:=hid (HOq.out.kept (gby_below (r:=none) hBq) (Classical.em _))
       have HBx:=hid (HBq.out.trans (hBq.mono HBq.out.size))
       go_wp2
       go_roundw
       case rel=>exact⟨k+1,some ⟨gq,0,none⟩,cap,m+1,_,by omega,by go_num,rfl,by omega,HL1,hid HS8.out.symm,HOx,HBx⟩
       case measure=>(simp[RowKit.intOf];omega)
  ·obtain rfl:k=L.length:=by omega
   have i2:¬(L.length:Int)<(L.length:Int):=by omega
   have HM9:=hid (show M=liveL G L by have h9:=HM.out;rw[List.take_length] at h9;exact h9)
   go_wp2
   go_ret
   refine⟨A',c',by rw[←HM9.out,←HML.out];rfl,?_,HBr.out⟩
   rw[←HM9.out,←HML.out];exact HO.out
theorem own_base {w:World} {B B2 E s n:Nat} {v:Value} {xs:List Value} (h:w.ownsRow B E s v n xs) (hb:B2≤B):w.ownsRow B2 E s v n xs:=by
 rcases h.2 with⟨e1,e2⟩|⟨g,cap,cur,e1,e2,e3⟩
 ·exact⟨h.1,.inl ⟨e1,e2⟩⟩
 ·exact⟨h.1,.inr ⟨g,cap,cur,e1,by omega,e3⟩⟩
theorem of14_any (L G:List Dt) (A A2:Option Addr) (c c2:Nat) (xt xr xi:Int) (S S2:Nat→Prop) (w00:World) (hl:L.length≤100000) (hl2:G.length≤100000) (hR:RowF w00 S A 5 dtL dt0 L) (hR2:RowF w00 S2 A2 5 dtL dt0 G):
  Calls Tryz.prog 145 #[.slice A L.length c,.slice A2 G.length c2,.agg #[.int .i64 xt,.int .i64 xr,.int .i64 xi]] w00 fun e w'=>∃A' c',e= .returned (.slice A' (ofL G ⟨⟨xt,xr⟩,xi⟩ L).length c')∧w'.ownsRow w00.heap.size 42 2 (.slice A' (ofL G ⟨⟨xt,xr⟩,xi⟩ L).length c') (ofL G ⟨⟨xt,xr⟩,xi⟩ L).length ((ofL G ⟨⟨xt,xr⟩,xi⟩ L).flatMap stL)∧Below w00.heap.size w00 w':=by
 obtain⟨i0,hi,hz0,hz1,hz2⟩:=info_parts info_st
 have hb0:Below w00.heap.size w00 (w00.alloc (.cells #[.int .i64 xt,.int .i64 xr,.int .i64 xi] 108)):=(Below.refl _ _).alloc (Nat.le_refl _) _
 have HB0:=hid hb0
 have HCX:=hid (heap_alloc_new w00 (.cells #[.int .i64 xt,.int .i64 xr,.int .i64 xi] 108))
 have HR:=hid (hR.below hb0)
 have HR2:=hid (hR2.below hb0)
 clear hR hR2 hb0
 go_enter Tryz.func145,Tryz.ntmps145
 go_upto_region 3 with fail
 generalize hW:w00.alloc (.cells #[.int .i64 xt,.int .i64 xr,.int .i64 xi] 108)=w at *
 clear hW
 generalize hxb:w00.heap.size=xb at *
 have HXB:=hid hxb
 clear hxb
 go_loopw [7,8] (fun o i wr=>∃(k:Nat) (A':Option Addr) (c' m:Nat) (M:List Gst),k≤L.length∧i= .int .i64 k∧o= .slice A' m c'∧m≤k∧Hid (m=M.length)∧Hid (M=ofL G ⟨⟨xt,xr⟩,xi⟩ (L.take k))∧Hid (wr.ownsRow w.heap.size 42 2 (.slice A' m c') m (M.flatMap stL))∧Hid (Below w.heap.size w wr)) (fun o i _=>L.length-(RowKit.intOf i).toNat)
 case atStart=>exact⟨0,none,0,0,[],Nat.zero_le _,rfl,rfl,Nat.le_refl _,hid rfl,hid rfl,hid (World.ownsRow_nil _ _ _ _),hid (Below.refl _ _)⟩
 case round=>
  obtain⟨k,A',c',m,M,hk,rfl,rfl,hmk,HML,HM,HO,HBr⟩:=hrel
  by_cases hlt:k<L.length
  ·have i1:(0:Int)≤(k:Int):=by omega
   have i2:(k:Int)<(L.length:Int):=by omega
   obtain⟨rb,ro,rfl,-,hrb,hrange⟩:=HR.out.range (fun _=>rfl) hlt
   have hst:ofL G ⟨⟨xt,xr⟩,xi⟩ (L.take (k+1))=stepO G ⟨⟨xt,xr⟩,xi⟩ M (L.getD k dt0):=by rw[HM.out];exact foldl_take _ _ hlt dt0
   generalize L.getD k dt0=p at *
   obtain⟨⟨⟨t,r⟩,n⟩,⟨bt,br⟩⟩:=p
   have HRW:=hid (fun W (hB:Below w.heap.size w W)=>show W.rangeAt rb (ro+k*5) [.int .i64 t,.int .i64 r,.int .i64 n,.int .i64 bt,.int .i64 br] from rangeB hrange hrb hB)
   have HST:=hid hst
   have hsz:=HBr.out.size
   have hm63:m≤100000:=by omega
   clear hrange hrb hst
   obtain⟨v,hv⟩:∃b,b=Gid.eqb ⟨⟨t,r⟩,n⟩ ⟨⟨xt,xr⟩,xi⟩:=⟨_,rfl⟩
   obtain⟨b1,hb1⟩:∃b,b=G.any (fun y=>y.eqb ⟨⟨⟨t,r⟩,n⟩,⟨bt,br⟩⟩):=⟨_,rfl⟩
   obtain⟨b3,hb3⟩:∃b,b=M.any (fun y=>y.eqb ⟨bt,br⟩):=⟨_,rfl⟩
   have HHD:=hid (fun W (hB:Below w.heap.size w W)=>show Calls Tryz.prog 174 #[.slice A2 G.length c2,.agg #[.int .i64 t,.int .i64 r,.int .i64 n,.int .i64 bt,.int .i64 br]] W fun e w'=>e= .returned (.bool b1)∧Below W.heap.size W w' from by rw[hb1];exact hasdot_any G A2 c2 ⟨⟨⟨t,r⟩,n⟩,⟨bt,br⟩⟩ S2 W (by omega) (HR2.out.below hB))
   have HHS:=hid (fun W (hB:Below wr.heap.size wr W)=>show Calls Tryz.prog 109 #[.slice A' m c',.agg #[.int .i64 bt,.int .i64 br]] W fun e w'=>e= .returned (.bool b3)∧Below W.heap.size W w' from by
    have h9:=hasstamp_any M A' c' ⟨bt,br⟩ _ W (by rw[←HML.out];omega) (ownN_rowF (f:=stL) (z:=Gst.zero) (fun _=>rfl) HML.out (HO.out.kept (gby_below (r:=none) hB) (Classical.em _)))
    rw[←HML.out,←hb3] at h9;exact h9)
   have HST:=hid (show ofL G ⟨⟨xt,xr⟩,xi⟩ (L.take (k+1))=if (!v || b1 || b3)=true then M else insB (fun y=>Gst.lt ⟨bt,br⟩ y) Gst.zero M ⟨bt,br⟩ by rw[HST.out,hv,hb1,hb3];rfl)
   have q1:=ne_id t r n xt xr xi v hv.symm
   have HRG:=hid (HRW.out wr HBr.out)
   have HXr:=hid ((HBr.out.block xb (lt_of_block HCX.out)).trans HCX.out)
   have y0:=cell_regrown (w:=wr) (a:=⟨rb,ro+k*5,none⟩) (v:= .int .i64 t) (HRG.out 0 _ rfl)
   have y1:=cell_regrown (w:=wr) (a:=⟨rb,ro+k*5+1,none⟩) (v:= .int .i64 r) (HRG.out 1 _ rfl)
   have y2:=cell_regrown (w:=wr) (a:=⟨rb,ro+k*5+2,none⟩) (v:= .int .i64 n) (HRG.out 2 _ rfl)
   have y3:=cell_regrown (w:=wr) (a:=⟨rb,ro+k*5+3,none⟩) (v:= .int .i64 bt) (HRG.out 3 _ rfl)
   have y4:=cell_regrown (w:=wr) (a:=⟨rb,ro+k*5+4,none⟩) (v:= .int .i64 br) (HRG.out 4 _ rfl)
   have x0:=rg0 HXr.out
   have x1:=rg1 HXr.out
   have x2:=rg2 HXr.out
   have cA:=fun d os=>Calls.regrown_of (HHD.out (grow (redrawn wr d) os) (HBr.out.trans ((below_regrown wr d os).mono hsz)))
   have cB:=fun d os=>Calls.regrown_of (HHS.out (grow (redrawn wr d) os) (below_regrown wr d os))
   clear hv hb1 hb3
   cases v with
   |false=>
    have HS9:=hid (show ofL G ⟨⟨xt,xr⟩,xi⟩ (L.take (k+1))=M by rw[HST.out];rfl)
    go_upto_region 5 with fail
    refine rqb ?_
    repeat(any_goals(first|go_big_quiet_step (with_reducible first|exact cA _ _|exact cB _ _)|quiet_step (with_reducible first|exact cA _ _|exact cB _ _)))
    refine qz fun wq hBq=> ?_
    have HO3:=hid (HO.out.kept (gby_below (r:=none) hBq) (Classical.em _))
    have HB3:=hid (HBr.out.trans (hBq.mono hsz))
    go_wp2
    go_roundw
    case rel=>exact⟨k+1,A',c',m,M,by omega,by go_num,rfl,by omega,HML,hid HS9.out.symm,HO3,HB3⟩
    case measure=>(simp[RowKit.intOf];omega)
   | true =>
    cases b1 with
    |true=>
     have HS9:=hid (show ofL G ⟨⟨xt,xr⟩,xi⟩ (L.take (k+1))=M by rw[HST.out];rfl)
     go_upto_region 5 with fail
     refine rqb ?_
     repeat(any_goals(first|go_big_quiet_step (with_reducible first|exact cA _ _|exact cB _ _)|quiet_step (with_reducible first|exact cA _ _|exact cB _ _)))
     refine qz fun wq hBq=> ?_
     have HO3:=hid (HO.out.kept (gby_below (r:=none) hBq) (Classical.em _))
     have HB3:=hid (HBr.out.trans (hBq.mono hsz))
     go_wp2
     go_roundw
     case rel=>exact⟨k+1,A',c',m,M,by omega,by go_num,rfl,by omega,HML,hid HS9.out.symm,HO3,HB3⟩
     case measure=>(simp[RowKit.intOf];omega)
    | false=>
     cases b3 with
     |true=>
      have HS9:=hid (show ofL G ⟨⟨xt,xr⟩,xi⟩ (L.take (k+1))=M by rw[HST.out];rfl)
      go_upto_region 5 with fail
      refine rqb ?_
      repeat(any_goals(first|go_big_quiet_step (with_reducible first|exact cA _ _|exact cB _ _)|quiet_step (with_reducible first|exact cA _ _|exact cB _ _)))
      refine qz fun wq hBq=> ?_
      have HO3:=hid (HO.out.kept (gby_below (r:=none) hBq) (Classical.em _))
      have HB3:=hid (HBr.out.trans (hBq.mono hsz))
      go_wp2
      go_roundw
      case rel=>exact⟨k+1,A',c',m,M,by omega,by go_num,rfl,by omega,HML,hid HS9.out.symm,HO3,HB3⟩
      case measure=>(simp[RowKit.intOf];omega)
     | false=>
      have HS9:=hid (show ofL G ⟨⟨xt,xr⟩,xi⟩ (L.take (k+1))=insB (fun y:Gst=>Gst.lt ⟨bt,br⟩ y) Gst.zero M ⟨bt,br⟩ by rw[HST.out];rfl)
      go_upto_region 5 with fail
      refine rqb ?_
      repeat(any_goals(first|go_big_quiet_step (with_reducible first|exact cA _ _|exact cB _ _)|quiet_step (with_reducible first|exact cA _ _|exact cB _ _)))
      refine qz fun wq hBq=> ?_
      have HO3:=hid (HO.out.kept (gby_below (r:=none) hBq) (Classical.em _))
      have HB3:=hid (HBr.out.trans (hBq.mono hsz))
      have hsz3:=HB3.out.size
      have HRX:=hid (show wq.rangeAt rb (ro+k*5+3) [.int .i64 bt,.int .i64 br] from range_mid (pre:=[.int .i64 t,.int .i64 r,.int .i64 n]) (post:=[]) (HRW.out wq HB3.out))
      clear y0 y1 y2 y3 y4 x0 x1 x2 cA cB hBq
      go_upto_region 8 with(first
       |(refine wpList_load_mid rfl _ _ rfl rb (ro+k*5+3) rfl [.int .i64 bt,.int .i64 br] _ HRX.out Tryz.underlying42 rfl (by kernel_rfl) ?_)
       |(at_builtin;refine wpList_append_lies _ rfl _ _ 100 rfl w.heap.size 42 i0 (.agg #[.int .i64 0,.int .i64 0]) 2 16 Tryz.underlying100 hi hz0 hz1 hz2 rfl (by decide) (.slice A' m c') m _ rfl (by exact HO3.out.alloc _) ⟨wq.heap.size,0,none⟩ 1 1 [.int .i64 bt,.int .i64 br] rfl rfl (fun j y h=>cellsN wq [.int .i64 bt,.int .i64 br] 42 j y h) (oc_of (c:=#[.int .i64 bt,.int .i64 br]) rfl) (by decide) (by unfold maxLen;omega) (by omega) (by simp;omega) (wq.heap.size+1) (by simp) ?_;intro gq cap w5 hown hgrow ha hlt5;have HO5:=hid hown;have HB5:=hid ((HB3.out.alloc hsz3 _).grown hgrow (by simp;omega) (fun b hb=>(HO3.out.lt b hb).1));clear hown hgrow ha hlt5))
      clear HHD HHS HRG HXr HB3 HO3 HRX hsz3
      have hs9:slid M (⟨bt,br⟩:Gst) m=M++[⟨bt,br⟩]:=by rw[HML.out];exact slid_end _ _
      have HO6:=hid (show w5.ownsRow w.heap.size 42 2 (.slice (some ⟨gq,0,none⟩) (m+1) cap) (m+1) ((slid M (⟨bt,br⟩:Gst) m).flatMap stL) by rw[hs9,List.flatMap_append];exact HO5.out)
      clear hs9 HO5
      generalize w5=w6 at *
      go_loopw [9] (fun i wx=>∃(q:Nat),i= .int .i64 q∧q≤m∧Hid (insIx (fun y:Gst=>Gst.lt ⟨bt,br⟩ y) .zero M q=insIx (fun y:Gst=>Gst.lt ⟨bt,br⟩ y) .zero M M.length)∧Hid (wx.ownsRow w.heap.size 42 2 (.slice (some ⟨gq,0,none⟩) (m+1) cap) (m+1) ((slid M (⟨bt,br⟩:Gst) q).flatMap stL))∧Hid (Below w.heap.size w wx)) (fun i _=>(RowKit.intOf i).toNat)
      case atStart=>exact⟨m,rfl,Nat.le_refl _,hid (by rw[HML.out]),HO6,HB5⟩
      case round=>
       obtain⟨q,rfl,hq,HIX,HOq,HBq⟩:=hrel
       by_cases h0:0<q
       ·obtain⟨q,rfl⟩:∃p,q=p+1:=⟨q-1,by omega⟩
        have hqm:q+1≤M.length:=by rw[←HML.out];exact hq
        have hl1:m+1=(slid M (⟨bt,br⟩:Gst) (q+1)).length:=by rw[slid_len,←HML.out]
        obtain⟨g3,e3,-,hg3,hr3⟩:=ownN_range (f:=stL) (fun _=>rfl) hl1 HOq.out (k:=q) (by omega) .zero
        cases e3
        obtain⟨g4,e4,-,-,hr4⟩:=ownN_range (f:=stL) (fun _=>rfl) hl1 HOq.out (k:=q+1) (by omega) .zero
        cases e4
        rw[slid_pre hqm] at hr3
        rw[slid_at hqm] at hr4
        have hsw:=slid_swap (L:=M) (x:=(⟨bt,br⟩:Gst)) (z:= .zero) hqm
        obtain⟨y,hy⟩:∃y,y=M.getD q .zero:=⟨_,rfl⟩
        rw[←hy] at hr3 hsw
        obtain⟨b2,hb2⟩:∃b,b=(fun y:Gst=>Gst.lt ⟨bt,br⟩ y) y:=⟨_,rfl⟩
        have HPY:=hid (show(fun y:Gst=>Gst.lt ⟨bt,br⟩ y) (M.getD q .zero)=b2 by rw[←hy,hb2])
        clear hy
        obtain⟨t2,r2⟩:=y
        have HR3:=hid (show wr.rangeAt gq (q*2) [.int .i64 t2,.int .i64 r2] from hr3)
        have HR4:=hid (show wr.rangeAt gq ((q+1)*2) [.int .i64 bt,.int .i64 br] from hr4)
        have y0:=cell_regrown (w:=wr) (a:=⟨gq,q*2,none⟩) (v:= .int .i64 t2) (hr3 0 _ rfl)
        have y1:=cell_regrown (w:=wr) (a:=⟨gq,q*2+1,none⟩) (v:= .int .i64 r2) (hr3 1 _ rfl)
        have x0:=cell_regrown (w:=wr) (a:=⟨gq,(q+1)*2,none⟩) (v:= .int .i64 bt) (hr4 0 _ rfl)
        have x1:=cell_regrown (w:=wr) (a:=⟨gq,(q+1)*2+1,none⟩) (v:= .int .i64 br) (hr4 1 _ rfl)
        have HSW:=hid hsw
        have k1:(0:Int)<(q:Int)+1:=by omega
        have k2:(0:Int)≤(q:Int):=by omega
        have k3:(q:Int)<(m:Int)+1:=by omega
        have k4:(q:Int)+1<(m:Int)+1:=by omega
        have k5:(0:Int)≤(q:Int)+1:=by omega
        have k6:IntKind.i64.wrap (q:Int)=(q:Int):=by rw[IntKind.wrap_i64];omega
        have HL1:=hid hl1
        have HBF:=fun W=>before_any bt br t2 r2 W
        rw[show Gst.lt ⟨bt,br⟩ ⟨t2,r2⟩=b2 from hb2.symm] at HBF
        have cA:=fun d os=>Calls.regrown_of (HBF (grow (redrawn wr d) os))
        clear hr3 hr4 hb2 hsw hl1
        cases b2 with
        |false=>
         go_upto_region 8 with fail
         refine rqb ?_
         repeat(any_goals(first|go_big_quiet_step (with_reducible exact cA _ _)|quiet_step (with_reducible exact cA _ _)))
         refine qz fun wq hBq=> ?_
         have HS8:=hid (show ofL G ⟨⟨xt,xr⟩,xi⟩ (L.take (k+1))=slid M (⟨bt,br⟩:Gst) (q+1) by rw[HS9.out];unfold insB;rw[←HIX.out,insIx_stop (.inr ⟨q,rfl,HPY.out⟩)])
         have HOx:=hid (HOq.out.kept (gby_below (r:=none) hBq) (Classical.em _))
         have HBx:=hid (HBq.out.trans (hBq.mono HBq.out.size))
         go_wp2
         go_roundw
         case rel=>exact⟨k+1,some ⟨gq,0,none⟩,cap,m+1,_,by omega,by go_num,rfl,by omega,HL1,hid HS8.out.symm,HOx,HBx⟩
         case measure=>(simp[RowKit.intOf];omega)
        | true=>
         go_upto_region 8 with fail
         refine rqb ?_
         repeat(any_goals(first|go_big_quiet_step (with_reducible exact cA _ _)|quiet_step (with_reducible exact cA _ _)))
         refine qz fun wq hBq=> ?_
         have HIX2:=hid (show insIx (fun y:Gst=>Gst.lt ⟨bt,br⟩ y) .zero M q=insIx (fun y:Gst=>Gst.lt ⟨bt,br⟩ y) .zero M M.length by rw[←HIX.out,insIx_go HPY.out])
         have HR3q:=hid (rangeB HR3.out hg3 hBq)
         have HR4q:=hid (rangeB HR4.out hg3 hBq)
         have HOq2:=hid (HOq.out.kept (gby_below (r:=none) hBq) (Classical.em _))
         have HBq2:=hid (HBq.out.trans (hBq.mono HBq.out.size))
         clear y0 y1 x0 x1 cA HOq hBq
         go_upto_region 10 with fail
         obtain⟨V1,hV1⟩:∃V,V=wq.drew.setCells gq ((q+1)*2) (#[.int .i64 t2,.int .i64 r2]:Array Value).toList:=⟨_,rfl⟩
         have hP1:V1.ownsRow w.heap.size 42 2 (.slice (some ⟨gq,0,none⟩) (m+1) cap) (m+1) (((slid M (⟨bt,br⟩:Gst) (q+1)).set (q+1) (⟨t2,r2⟩:Gst)).flatMap stL)∧wq.drew.grownBy V1 (some gq):=by rw[hV1];exact ownN_put (f:=stL) (fun _=>rfl) (by decide) HL1.out (show wq.drew.ownsRow _ _ _ _ _ _ from HOq2.out) (by omega) (⟨t2,r2⟩:Gst)
         obtain⟨V2,hV2⟩:∃V,V=V1.setCells gq (q*2) (#[.int .i64 bt,.int .i64 br]:Array Value).toList:=⟨_,rfl⟩
         have hP2:V2.ownsRow w.heap.size 42 2 (.slice (some ⟨gq,0,none⟩) (m+1) cap) (m+1) ((((slid M (⟨bt,br⟩:Gst) (q+1)).set (q+1) (⟨t2,r2⟩:Gst)).set q (⟨bt,br⟩:Gst)).flatMap stL)∧V1.grownBy V2 (some gq):=by rw[hV2];exact ownN_put (f:=stL) (fun _=>rfl) (by decide) (by rw[List.length_set];exact HL1.out) hP1.1 (by omega) (⟨bt,br⟩:Gst)
         obtain⟨g5,e5,ht5⟩:=own_there (show wq.drew.ownsRow _ _ _ _ _ _ from HOq2.out) (k:=q+1) (by omega)
         cases e5
         obtain⟨g6,e6,ht6⟩:=own_there hP1.1 (k:=q) (by omega)
         cases e6
         have HP2:=hid hP2.1
         have HG2:=hid (show wq.heap.size≤V2.heap.size∧(Below w.heap.size w wq→w.heap.size≤gq→Below w.heap.size w V2) from⟨Nat.le_trans (show wq.drew.heap.size≤V1.heap.size from hP1.2.size) hP2.2.size,fun hb hl=>(hb.drew.grown hP1.2 (by exact hb.size) (fun b e=>by cases e;exact hl)).grown hP2.2 (Nat.le_trans hb.size (show wq.drew.heap.size≤V1.heap.size from hP1.2.size)) (fun b e=>by cases e;exact hl)⟩)
         have HV1:=hid hV1
         have HV2:=hid hV2
         have HT5:=hid ht5
         have HT6:=hid ht6
         have HAY:=hid (show(#[.int .i64 t2,.int .i64 r2]:Array Value).all (·.oneCell')=true by rw[←Array.all_toList];rfl)
         have HAX:=hid (show(#[.int .i64 bt,.int .i64 br]:Array Value).all (·.oneCell')=true by rw[←Array.all_toList];rfl)
         clear hP1 hP2 hV1 hV2 ht5 ht6
         refine wp_region_held (S:=fun _=>True) (by kernel_rfl) ?_
         try(change wpAnyH _ _ _ _ _ _ _ _ (World.drew _))
         refine tk 0 (.slice (some ⟨gq,0,none⟩) (m+1) cap) (trivial) ?_
         go_simp
         refine tk 1 (.int .i64 ((q:Int)+1)) (trivial) ?_
         go_simp
         refine tk 2 (.slice (some ⟨gq,0,none⟩) (m+1) cap) (trivial) ?_
         go_simp
         refine tk 3 (.int .i64 ((q:Int)+1)) (trivial) ?_
         go_simp
         refine tk 4 (.int .i64 (q:Int)) (trivial) ?_
         go_simp
         refine tk 5 (.slice (some ⟨gq,0,none⟩) (m+1) cap) (trivial) ?_
         go_simp
         refine tk 6 (.int .i64 ((q:Int)+1)) (trivial) ?_
         go_simp
         refine tk 7 (.int .i64 (q:Int)) (trivial) ?_
         go_simp
         refine tk 8 (.pointer (some ⟨gq,q*2,none⟩)) (trivial) ?_
         go_simp
         refine tk 10 (.slice (some ⟨gq,0,none⟩) (m+1) cap) (trivial) ?_
         go_simp
         refine tk 11 (.int .i64 ((q:Int)+1)) (trivial) ?_
         go_simp
         refine tk 12 (.pointer (some ⟨gq,(q+1)*2,none⟩)) (trivial) ?_
         go_simp
         refine wpAnyH_ready (rs:=[9,13]) (by kernel_rfl) (by simp) ?_
         refine AllReadyH.cons rfl (fun K hK=> ?_) (AllReadyH.cons rfl (fun K hK=> ?_) AllReadyH.nil)
         focus
          refine step_load_mid rfl _ _ rfl gq (q*2) rfl [.int .i64 t2,.int .i64 r2] _ (show wq.drew.rangeAt _ _ _ from HR3q.out) Tryz.underlying42 rfl (by kernel_rfl) ?_
          refine hK.out _ _ (trivial) (fun _=> ?_)
          clear hK K
          refine wpAnyH_ready (rs:=[13]) (by kernel_rfl) (by simp) ?_
          refine AllReadyH.cons rfl (fun K hK=> ?_) AllReadyH.nil
          refine step_load_mid rfl _ _ rfl gq ((q+1)*2) rfl [.int .i64 bt,.int .i64 br] _ (show wq.drew.rangeAt _ _ _ from HR4q.out) Tryz.underlying42 rfl (by kernel_rfl) ?_
          refine hK.out _ _ (trivial) (fun _=> ?_)
          clear hK K
         rotate_left
         focus
          refine step_load_mid rfl _ _ rfl gq ((q+1)*2) rfl [.int .i64 bt,.int .i64 br] _ (show wq.drew.rangeAt _ _ _ from HR4q.out) Tryz.underlying42 rfl (by kernel_rfl) ?_
          refine hK.out _ _ (trivial) (fun _=> ?_)
          clear hK K
          refine wpAnyH_ready (rs:=[9]) (by kernel_rfl) (by simp) ?_
          refine AllReadyH.cons rfl (fun K hK=> ?_) AllReadyH.nil
          refine step_load_mid rfl _ _ rfl gq (q*2) rfl [.int .i64 t2,.int .i64 r2] _ (show wq.drew.rangeAt _ _ _ from HR3q.out) Tryz.underlying42 rfl (by kernel_rfl) ?_
          refine hK.out _ _ (trivial) (fun _=> ?_)
          clear hK K
         all_goals
          refine tk 14 (.pointer (some ⟨gq,(q+1)*2,none⟩)) (trivial) ?_
          go_simp
          refine wpAnyH_ready (rs:=[15]) (by kernel_rfl) (by simp) ?_
          refine AllReadyH.cons rfl (fun K hK=> ?_) AllReadyH.nil
          refine step_store_mid rfl _ _ _ rfl gq ((q+1)*2) #[.int .i64 t2,.int .i64 r2] (by rfl) (by rfl) HT5.out (by kernel_rfl) HAY.out ?_
          rw[←HV1.out]
          refine hK.out _ _ (trivial) (fun _=> ?_)
          clear hK K
          refine tk 16 (.pointer (some ⟨gq,q*2,none⟩)) (trivial) ?_
          go_simp
          refine wpAnyH_ready (rs:=[17]) (by kernel_rfl) (by simp) ?_
          refine AllReadyH.cons rfl (fun K hK=> ?_) AllReadyH.nil
          refine step_store_mid rfl _ _ _ rfl gq (q*2) #[.int .i64 bt,.int .i64 br] (by rfl) (by rfl) HT6.out (by kernel_rfl) HAX.out ?_
          rw[←HV2.out]
          refine hK.out _ _ (trivial) (fun _=> ?_)
          clear hK K
          refine wpAnyH_done (by kernel_rfl) ?_ _
          go_simp
          go_wp2
          go_roundw
          case rel=>exact⟨q,by go_num,by omega,HIX2,hid (by rw[←HSW.out];exact HP2.out),hid (HG2.out.2 HBq2.out (HOq2.out.lt gq rfl).1)⟩
          case measure=>(simp[RowKit.intOf];try omega)
       ·obtain rfl:q=0:=by omega
        go_upto_region 8 with fail
        refine rqb ?_
        repeat(any_goals(first|go_big_quiet_step (fail)|quiet_step (fail)))
        refine qz fun wq hBq=> ?_
        have HS8:=hid (show ofL G ⟨⟨xt,xr⟩,xi⟩ (L.take (k+1))=slid M (⟨bt,br⟩:Gst) 0 by rw[HS9.out];unfold insB;rw[←HIX.out];rfl)
        have HL1:=hid (show m+1=(slid M (⟨bt,br⟩:Gst) 0).length by rw[slid_len,←HML.out])
        have HOx:=hid (HOq.out.kept (gby_below (r:=none) hBq) (Classical.em _))
        have HBx:=hid (HBq.out.trans (hBq.mono HBq.out.size))
        go_wp2
        go_roundw
        case rel=>exact⟨k+1,some ⟨gq,0,none⟩,cap,m+1,_,by omega,by go_num,rfl,by omega,HL1,hid HS8.out.symm,HOx,HBx⟩
        case measure=>(simp[RowKit.intOf];omega)
  ·obtain rfl:k=L.length:=by omega
   have i2:¬(L.length:Int)<(L.length:Int):=by omega
   have HM9:=hid (show M=ofL G ⟨⟨xt,xr⟩,xi⟩ L by have h9:=HM.out;rw[List.take_length] at h9;exact h9)
   go_wp2
   go_ret
   obtain rfl:=HXB.out
   refine⟨A',c',by rw[←HM9.out,←HML.out];rfl,?_,HB0.out.trans (HBr.out.mono HB0.out.size)⟩
   rw[←HM9.out,←HML.out];exact own_base HO.out HB0.out.size
end
end Go.Proofs.YtkhmicndehlneaaGreatDoor
