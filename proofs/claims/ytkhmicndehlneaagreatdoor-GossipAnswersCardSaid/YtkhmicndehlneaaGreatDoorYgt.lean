/- Part 20 of the walks and plain laws that this claim uses, joined. Conditions: as each theorem states. -/
import Derived.Test.YtkhmicndehlneaaGreatDoorYgs
namespace Go.Proofs.YtkhmicndehlneaaGreatDoor
set_option maxRecDepth 100000
set_option maxHeartbeats 16000000
set_option linter.unusedVariables false
section
open Go.RowKit Go.Lib Go.Sort
attribute [local go_sem ↓] Go.wp_at_zero Go.wp_at_succ
def stepP (out:List Plc) (x:Told):List Plc:=
 if (x.p.n.eqb .zero || within out x.p.p x.p.n)=true then out else match findP out x.p.n with
  |some k=>out.set k ⟨x.p.n,x.p.p,x.p.name,(out.getD k plc0).dir⟩
  |none=>insB (λy=>x.p.n.lt y.n) plc0 out x.p
def replayL (l:List Told):List Plc:=(sortT l).foldl stepP []
theorem stepP_len (out:List Plc) (x:Told):(stepP out x).length<=out.length+1:=by
 unfold stepP;split
 ·omega
 ·split
  ·rw[List.length_set];omega
  ·rw[insB_len];exact Nat.le_refl _
theorem foldP_len:∀(l:List Told) (out:List Plc),(l.foldl stepP out).length<=out.length+l.length
 | [],out=>Nat.le_refl _
 |x::l,out=>by
  have h1:=foldP_len l (stepP out x);have h2:=stepP_len out x;rw[List.foldl_cons,List.length_cons];omega
theorem replayL_len (l:List Told):(replayL l).length<=l.length:=by
 unfold replayL;have h1:=foldP_len (sortT l) [];have h2:=sortT_len l [];simp only[List.length_nil,Nat.zero_add] at h1 h2;exact Nat.le_trans h1 h2
theorem replay_any (L:List Told) (A A2:Option Addr) (c c2:Nat) (S S2:Nat->Prop) (w00:World) (hl:L.length<=100000) (hR:RowF w00 S A 3 idL Gid.zero (L.map (·.a))) (hR2:RowF w00 S2 A2 8 plcL plc0 (L.map (·.p))):
  Calls Tryz.prog 111 #[.slice A L.length c,.slice A2 L.length c2] w00 λe w'=>∃A' c',e= .returned (.slice A' (replayL L).length c')∧w'.ownsRow w00.heap.size 161 8 (.slice A' (replayL L).length c') (replayL L).length ((replayL L).flatMap plcL)∧Below w00.heap.size w00 w':=by
 obtain⟨i0,hi,hz0,hz1,hz2⟩:=info_parts info_plc;have HSO:=hid (sortedt_any L A A2 c c2 S S2 w00 hl hR hR2);have hsl:=sortT_len L [];obtain⟨N,hN⟩:∃N,N=sortT L:=⟨_,rfl⟩;obtain⟨R,hR9⟩:∃R,R=replayL L:=⟨_,rfl⟩;have HRR:=hid (show R=N.foldl stepP [] by rw[hR9,hN];rfl);rw[<-hR9];rw[<-hN] at HSO;have hNl:N.length<=100000:=by rw[hN];simp only[List.length_nil,Nat.zero_add] at hsl;exact Nat.le_trans hsl hl
 clear hR hR2 hR9 hN hsl;go_enter Tryz.func111,Tryz.ntmps111;go_upto_region 4 with(go_at_call 167;refine HSO.out.mono ?_;rintro e w ⟨A1,c1,rfl,hown1,hB1⟩;have HN1:=hid hown1;have HB1:=hid hB1;clear hown1 hB1);go_loopw [6,7] (λo i wr=>∃(k:Nat) (A':Option Addr) (c' m:Nat) (M:List Plc),k<=N.length∧i= .int .i64 k∧o= .slice A' m c'∧m<=k∧Hid (m=M.length)∧Hid (M=(N.take k).foldl stepP [])∧Hid (wr.ownsRow w.heap.size 161 8 (.slice A' m c') m (M.flatMap plcL))∧Hid (Below w.heap.size w wr)) (λo i _=>N.length-(RowKit.intOf i).toNat)
 case atStart=>exact⟨0,none,0,0,[],Nat.zero_le _,rfl,rfl,Nat.le_refl _,hid rfl,hid rfl,hid (World.ownsRow_nil _ _ _ _),hid (Below.refl _ _)⟩
 case round=>
  obtain⟨k,A',c',m,M,hk,rfl,rfl,hmk,HML,HM,HO,HBr⟩:=hrel;by_cases hlt:k<N.length
  ·have i1:(0:Int)<=(k:Int):=by omega
   have i2:(k:Int)<(N.length:Int):=by omega
   obtain⟨rb,rfl,-,hrb,hrange⟩:=own_range (f:=toldL) (λ_=>rfl) HN1.out hlt told0;have hst:((N.take (k+1)).foldl stepP [])=stepP M (N.getD k told0):=by rw[HM.out];exact foldl_take _ _ hlt told0
   generalize N.getD k told0=p at *;obtain⟨⟨⟨t,r⟩,n⟩,⟨⟨⟨nt,nr⟩,ni⟩,⟨⟨pt,pr⟩,pi⟩,nm,dd⟩⟩:=p;have hsz:=HBr.out.size;have hm63:m<=100000:=by omega
   have HPX:=hid (show wr.rangeAt rb (k*11+3) [.int .i64 nt,.int .i64 nr,.int .i64 ni,.int .i64 pt,.int .i64 pr,.int .i64 pi,.string nm,.bool dd] from range_mid (pre:=[.int .i64 t,.int .i64 r,.int .i64 n]) (post:=[]) (rangeB hrange hrb HBr.out));obtain⟨b0,hb0⟩:∃b,b=Gid.eqb ⟨⟨nt,nr⟩,ni⟩ ⟨⟨0,0⟩,0⟩:=⟨_,rfl⟩;obtain⟨b1,hb1⟩:∃b,b=within M ⟨⟨pt,pr⟩,pi⟩ ⟨⟨nt,nr⟩,ni⟩:=⟨_,rfl⟩;have q0:=eq_id nt nr ni 0 0 0 b0 hb0.symm
   have HST:=hid (show((N.take (k+1)).foldl stepP [])=if (b0 || b1)=true then M else match findP M ⟨⟨nt,nr⟩,ni⟩ with
    |some k=>M.set k ⟨⟨⟨nt,nr⟩,ni⟩,⟨⟨pt,pr⟩,pi⟩,nm,(M.getD k plc0).dir⟩
    |none=>insB (λy=>Gid.lt ⟨⟨nt,nr⟩,ni⟩ y.n) plc0 M ⟨⟨⟨nt,nr⟩,ni⟩,⟨⟨pt,pr⟩,pi⟩,nm,dd⟩ by rw[hst,hb0,hb1];rfl)
   have HWI:=hid (λW (hB:Below wr.heap.size wr W)=>show Calls Tryz.prog 168 #[.slice A' m c',.agg #[pt,pr,pi],.agg #[nt,nr,ni]] W λe w'=>e= .returned (.bool b1)∧Below W.heap.size W w' from by
    have h9:=within_any M A' c' pt pr pi nt nr ni _ W (by rw[<-HML.out];omega) (ownN_rowF (f:=plcL) (z:=plc0) (λ_=>rfl) HML.out (HO.out.kept (gby_below (r:=none) hB) (Classical.em _)))
    rw[<-HML.out,<-hb1] at h9;exact h9)
   have HFD:=hid (λW (hB:Below wr.heap.size wr W)=>show Calls Tryz.prog 169 #[.slice A' m c',.agg #[nt,nr,ni]] W λe w'=>e= .returned (.int .i64 (ixI (findP M ⟨⟨nt,nr⟩,ni⟩)))∧Below W.heap.size W w' from by
    have h9:=findplc_any M A' c' ⟨⟨nt,nr⟩,ni⟩ _ W (by rw[<-HML.out];omega) (ownN_rowF (f:=plcL) (z:=plc0) (λ_=>rfl) HML.out (HO.out.kept (gby_below (r:=none) hB) (Classical.em _)))
    rw[<-HML.out] at h9;exact h9)
   clear hst hb0 hb1 hrange hrb
   go_upto_region 7 with(first
    |(refine wpList_load_mid rfl _ _ rfl rb (k*11+3) rfl [.int .i64 nt,.int .i64 nr,.int .i64 ni,.int .i64 pt,.int .i64 pr,.int .i64 pi,.string nm,.bool dd] _ HPX.out Tryz.underlying161 rfl (by kernel_rfl) ?_)
    |(refine store_last rfl _ _ _ rfl _ _ _ _ rfl ?_ rfl ?_ ?_ ?_ ?_;(focus(simp;done));kernel_rfl;rfl;rfl))
   have hba:=HBr.out.alloc hsz (.cells #[nt,nr,ni,pt,pr,pi,nm,dd] 161);have hbx:Below wr.heap.size wr (wr.alloc (.cells #[nt,nr,ni,pt,pr,pi,nm,dd] 161)):=(Below.refl _ _).alloc (Nat.le_refl _) _;have HCX:=hid (heap_alloc_new wr (.cells #[nt,nr,ni,pt,pr,pi,nm,dd] 161));generalize hW:wr.alloc (.cells #[nt,nr,ni,pt,pr,pi,nm,dd] 161)=W at *;have HBW:=hid hba;have HBX:=hid hbx;have HOW:=hid (HO.out.kept (gby_below (r:=none) hbx) (Classical.em _));clear hW hba hbx;have z0:=cw0 HCX.out;have z1:=cw1 HCX.out;have z2:=cw2 HCX.out;have z3:=cw3 HCX.out;have z4:=cw4 HCX.out;have z5:=cw5 HCX.out;have z6:=cw6 HCX.out;have z7:=cw7 HCX.out;cases b0 with
   |true=>
    have HS9:=hid (show((N.take (k+1)).foldl stepP [])=M by rw[HST.out];rfl);go_wp2;go_roundw
    case rel=>exact⟨k+1,A',c',m,M,by omega,by go_num,rfl,by omega,HML,hid HS9.out.symm,HOW,HBW⟩
    case measure=>(simp[RowKit.intOf];omega)
   | false=>
    cases b1 with
    |true=>
     have HS9:=hid (show((N.take (k+1)).foldl stepP [])=M by rw[HST.out];rfl);go_wp2_with (go_at_call 168;refine(HWI.out W HBX.out).mono ?_;rintro e w2 ⟨rfl,hB2⟩;have HC2:=hid ((hB2.block _ (lt_of_block HCX.out)).trans HCX.out);have HBY:=hid (HBX.out.trans (hB2.mono HBX.out.size));have HB2:=hid (HBW.out.trans (hB2.mono HBW.out.size));clear hB2;have v0:w2.cell? ⟨wr.heap.size,0,none⟩=some (.int .i64 nt):=cell_of_row _ _ _ _ _ _ HC2.out;have v1:w2.cell? ⟨wr.heap.size,1,none⟩=some (.int .i64 nr):=cell_of_row _ _ _ _ _ _ HC2.out;have v2:w2.cell? ⟨wr.heap.size,2,none⟩=some (.int .i64 ni):=cell_of_row _ _ _ _ _ _ HC2.out;have v3:w2.cell? ⟨wr.heap.size,3,none⟩=some (.int .i64 pt):=cell_of_row _ _ _ _ _ _ HC2.out;have v4:w2.cell? ⟨wr.heap.size,4,none⟩=some (.int .i64 pr):=cell_of_row _ _ _ _ _ _ HC2.out;have v5:w2.cell? ⟨wr.heap.size,5,none⟩=some (.int .i64 pi):=cell_of_row _ _ _ _ _ _ HC2.out;have v6:w2.cell? ⟨wr.heap.size,6,none⟩=some (.string nm):=cell_of_row _ _ _ _ _ _ HC2.out;have v7:w2.cell? ⟨wr.heap.size,7,none⟩=some (.bool dd):=cell_of_row _ _ _ _ _ _ HC2.out);have HO2:=hid (HO.out.kept (gby_below (r:=none) HBY.out) (Classical.em _));go_roundw
     case rel=>exact⟨k+1,A',c',m,M,by omega,by go_num,rfl,by omega,HML,hid HS9.out.symm,HO2,HB2⟩
     case measure=>(simp[RowKit.intOf];omega)
    | false=>
     cases hfd:findP M ⟨⟨nt,nr⟩,ni⟩ with
     | none=>
      have HS9:=hid (show((N.take (k+1)).foldl stepP [])=insB (λy:Plc=>Gid.lt ⟨⟨nt,nr⟩,ni⟩ y.n) plc0 M ⟨⟨⟨nt,nr⟩,ni⟩,⟨⟨pt,pr⟩,pi⟩,nm,dd⟩ by rw[HST.out,if_neg (by decide),hfd]);rw[hfd] at HFD;clear hfd HST
      go_upto_region 12 with(first
       |(go_at_call 168;refine(HWI.out W HBX.out).mono ?_;rintro e w2 ⟨rfl,hB2⟩;have HC2:=hid ((hB2.block _ (lt_of_block HCX.out)).trans HCX.out);have HBY:=hid (HBX.out.trans (hB2.mono HBX.out.size));have HB2:=hid (HBW.out.trans (hB2.mono HBW.out.size));clear hB2;have v0:w2.cell? ⟨wr.heap.size,0,none⟩=some (.int .i64 nt):=cell_of_row _ _ _ _ _ _ HC2.out;have v1:w2.cell? ⟨wr.heap.size,1,none⟩=some (.int .i64 nr):=cell_of_row _ _ _ _ _ _ HC2.out;have v2:w2.cell? ⟨wr.heap.size,2,none⟩=some (.int .i64 ni):=cell_of_row _ _ _ _ _ _ HC2.out;have v3:w2.cell? ⟨wr.heap.size,3,none⟩=some (.int .i64 pt):=cell_of_row _ _ _ _ _ _ HC2.out;have v4:w2.cell? ⟨wr.heap.size,4,none⟩=some (.int .i64 pr):=cell_of_row _ _ _ _ _ _ HC2.out;have v5:w2.cell? ⟨wr.heap.size,5,none⟩=some (.int .i64 pi):=cell_of_row _ _ _ _ _ _ HC2.out;have v6:w2.cell? ⟨wr.heap.size,6,none⟩=some (.string nm):=cell_of_row _ _ _ _ _ _ HC2.out;have v7:w2.cell? ⟨wr.heap.size,7,none⟩=some (.bool dd):=cell_of_row _ _ _ _ _ _ HC2.out)
       |(go_at_call 169;refine(HFD.out w2 HBY.out).mono ?_;rintro e w3 ⟨rfl,hB3⟩;have HC3:=hid ((hB3.block _ (lt_of_block HC2.out)).trans HC2.out);have HBZ:=hid (HBY.out.trans (hB3.mono HBY.out.size));have HB3:=hid (HB2.out.trans (hB3.mono HB2.out.size));have HO3:=hid (HO.out.kept (gby_below (r:=none) HBZ.out) (Classical.em _));clear hB3;dsimp only[ixI]))
      have hsz3:=HB3.out.size
      go_upto_region 14 with(first
       |(refine load_at rfl _ _ rfl wr.heap.size _ _ _ rfl HC3.out Tryz.underlying161 rfl ?_ ?_;kernel_rfl)
       |(at_builtin;refine wpList_append_lies _ rfl _ _ 101 rfl w.heap.size 161 i0 (.agg #[(0:Int),(0:Int),(0:Int),(0:Int),(0:Int),(0:Int),.string ⟨#[]⟩,false]) 8 72 Tryz.underlying101 hi hz0 hz1 hz2 rfl (by decide) (.slice A' m c') m _ rfl (by exact HO3.out.alloc _) ⟨w3.heap.size,0,none⟩ 1 1 [.int .i64 nt,.int .i64 nr,.int .i64 ni,.int .i64 pt,.int .i64 pr,.int .i64 pi,.string nm,.bool dd] rfl rfl (λj y h=>cellsN w3 [.int .i64 nt,.int .i64 nr,.int .i64 ni,.int .i64 pt,.int .i64 pr,.int .i64 pi,.string nm,.bool dd] 161 j y h) (oc_of (c:=#[.int .i64 nt,.int .i64 nr,.int .i64 ni,.int .i64 pt,.int .i64 pr,.int .i64 pi,.string nm,.bool dd]) rfl) (by decide) (by unfold maxLen;omega) (by omega) (by simp;omega) (w3.heap.size+1) (by simp) ?_;intro gq cap w5 hown hgrow ha hlt5;have HO5:=hid hown;have HB5:=hid ((HB3.out.alloc hsz3 _).grown hgrow (by simp;omega) (λb hb=>(HO3.out.lt b hb).1));clear hown hgrow ha hlt5))
      clear HWI HFD HCX HBW HBX HOW HBY HB2 HC2 HBZ HB3 HO3 HC3 HPX hsz3 z0 z1 z2 z3 z4 z5 z6 z7 v0 v1 v2 v3 v4 v5 v6 v7;have hs9:slid M (⟨⟨⟨nt,nr⟩,ni⟩,⟨⟨pt,pr⟩,pi⟩,nm,dd⟩:Plc) m=M++[⟨⟨⟨nt,nr⟩,ni⟩,⟨⟨pt,pr⟩,pi⟩,nm,dd⟩]:=by rw[HML.out];exact slid_end _ _
      have HO6:=hid (show w5.ownsRow w.heap.size 161 8 (.slice (some ⟨gq,0,none⟩) (m+1) cap) (m+1) ((slid M (⟨⟨⟨nt,nr⟩,ni⟩,⟨⟨pt,pr⟩,pi⟩,nm,dd⟩:Plc) m).flatMap plcL) by rw[hs9,List.flatMap_append];exact HO5.out);clear hs9 HO5;generalize w5=w6 at *;go_loopw [10] (λi wx=>∃(q:Nat),i= .int .i64 q∧q<=m∧Hid (insIx (λy:Plc=>Gid.lt ⟨⟨nt,nr⟩,ni⟩ y.n) plc0 M q=insIx (λy:Plc=>Gid.lt ⟨⟨nt,nr⟩,ni⟩ y.n) plc0 M M.length)∧Hid (wx.ownsRow w.heap.size 161 8 (.slice (some ⟨gq,0,none⟩) (m+1) cap) (m+1) ((slid M (⟨⟨⟨nt,nr⟩,ni⟩,⟨⟨pt,pr⟩,pi⟩,nm,dd⟩:Plc) q).flatMap plcL))∧Hid (Below w.heap.size w wx)) (λi _=>(RowKit.intOf i).toNat)
      case atStart=>exact⟨m,rfl,Nat.le_refl _,hid (by rw[HML.out]),HO6,HB5⟩
      case round=>
       obtain⟨q,rfl,hq,HIX,HOq,HBq⟩:=hrel;by_cases h0:0<q
       ·obtain⟨q,rfl⟩:∃p,q=p+1:=⟨q-1,by omega⟩;have hqm:q+1<=M.length:=by rw[<-HML.out];exact hq
        have hl1:m+1=(slid M (⟨⟨⟨nt,nr⟩,ni⟩,⟨⟨pt,pr⟩,pi⟩,nm,dd⟩:Plc) (q+1)).length:=by rw[slid_len,<-HML.out]
        obtain⟨g3,e3,-,hg3,hr3⟩:=ownN_range (f:=plcL) (λ_=>rfl) hl1 HOq.out (k:=q) (by omega) plc0;cases e3;obtain⟨g4,e4,-,-,hr4⟩:=ownN_range (f:=plcL) (λ_=>rfl) hl1 HOq.out (k:=q+1) (by omega) plc0;cases e4;rw[slid_pre hqm] at hr3;rw[slid_at hqm] at hr4;have hsw:=slid_swap (L:=M) (x:=(⟨⟨⟨nt,nr⟩,ni⟩,⟨⟨pt,pr⟩,pi⟩,nm,dd⟩:Plc)) (z:=plc0) hqm;obtain⟨y,hy⟩:∃y,y=M.getD q plc0:=⟨_,rfl⟩;rw[<-hy] at hr3 hsw;obtain⟨b2,hb2⟩:∃b,b=(λy:Plc=>Gid.lt ⟨⟨nt,nr⟩,ni⟩ y.n) y:=⟨_,rfl⟩;have HPY:=hid (show(λy:Plc=>Gid.lt ⟨⟨nt,nr⟩,ni⟩ y.n) (M.getD q plc0)=b2 by rw[<-hy,hb2]);clear hy;obtain⟨⟨⟨t2,r2⟩,n2⟩,⟨⟨pt2,pr2⟩,pi2⟩,nm2,dd2⟩:=y;have HR3:=hid (show wr.rangeAt gq (q*8) [.int .i64 t2,.int .i64 r2,.int .i64 n2,.int .i64 pt2,.int .i64 pr2,.int .i64 pi2,.string nm2,.bool dd2] from hr3);have HR4:=hid (show wr.rangeAt gq ((q+1)*8) [.int .i64 nt,.int .i64 nr,.int .i64 ni,.int .i64 pt,.int .i64 pr,.int .i64 pi,.string nm,.bool dd] from hr4);have y0:=cell_regrown (w:=wr) (a:=⟨gq,q*8,none⟩) (v:= .int .i64 t2) (hr3 0 _ rfl);have y1:=cell_regrown (w:=wr) (a:=⟨gq,q*8+1,none⟩) (v:= .int .i64 r2) (hr3 1 _ rfl);have y2:=cell_regrown (w:=wr) (a:=⟨gq,q*8+2,none⟩) (v:= .int .i64 n2) (hr3 2 _ rfl);have x0:=cell_regrown (w:=wr) (a:=⟨gq,(q+1)*8,none⟩) (v:= .int .i64 nt) (hr4 0 _ rfl);have x1:=cell_regrown (w:=wr) (a:=⟨gq,(q+1)*8+1,none⟩) (v:= .int .i64 nr) (hr4 1 _ rfl);have x2:=cell_regrown (w:=wr) (a:=⟨gq,(q+1)*8+2,none⟩) (v:= .int .i64 ni) (hr4 2 _ rfl);have HSW:=hid hsw;have k1:(0:Int)<(q:Int)+1:=by omega
        have k2:(0:Int)<=(q:Int):=by omega
        have k3:(q:Int)<(m:Int)+1:=by omega
        have k4:(q:Int)+1<(m:Int)+1:=by omega
        have k5:(0:Int)<=(q:Int)+1:=by omega
        have k6:IntKind.i64.wrap (q:Int)=(q:Int):=by rw[IntKind.wrap_i64];omega
        have HL1:=hid hl1;have HBF:=λW=>refcmpid_any nt nr ni t2 r2 n2 W;obtain⟨zc,hzc⟩:∃z,z=rcmpD ⟨⟨nt,nr⟩,ni⟩ ⟨⟨t2,r2⟩,n2⟩:=⟨_,rfl⟩;rw[<-hzc] at HBF;have hz2:decide (0<=zc)= !b2:=by rw[hzc,rcmpD_ge,hb2]
        have hz3:decide (zc<0)=b2:=by cases b2<;>simp at hz2 ⊢ <;>omega
        clear hzc hz2;have cA:=λd os=>Calls.regrown_of (HBF (grow (redrawn wr d) os));clear hr3 hr4 hb2 hsw hl1;cases b2 with
        |false=>
         go_upto_region 14 with fail;refine rqb ?_
         repeat(any_goals(first|go_big_quiet_step (with_reducible exact cA _ _)|quiet_step (with_reducible exact cA _ _)))
         refine qz λwq hBq=> ?_;have HS8:=hid (show((N.take (k+1)).foldl stepP [])=slid M (⟨⟨⟨nt,nr⟩,ni⟩,⟨⟨pt,pr⟩,pi⟩,nm,dd⟩:Plc) (q+1) by rw[HS9.out];unfold insB;rw[<-HIX.out,insIx_stop (.inr ⟨q,rfl,HPY.out⟩)]);have HOx:=hid (HOq.out.kept (gby_below (r:=none) hBq) (Classical.em _));have HBx:=hid (HBq.out.trans (hBq.mono HBq.out.size));go_wp2;go_roundw
         case rel=>exact⟨k+1,some ⟨gq,0,none⟩,cap,m+1,_,by omega,by go_num,rfl,by omega,HL1,hid HS8.out.symm,HOx,HBx⟩
         case measure=>(simp[RowKit.intOf];omega)
        | true=>
         go_upto_region 14 with fail;refine rqb ?_
         repeat(any_goals(first|go_big_quiet_step (with_reducible exact cA _ _)|quiet_step (with_reducible exact cA _ _)))
         refine qz λwq hBq=> ?_;have HIX2:=hid (show insIx (λy:Plc=>Gid.lt ⟨⟨nt,nr⟩,ni⟩ y.n) plc0 M q=insIx (λy:Plc=>Gid.lt ⟨⟨nt,nr⟩,ni⟩ y.n) plc0 M M.length by rw[<-HIX.out,insIx_go HPY.out]);have HR3q:=hid (rangeB HR3.out hg3 hBq);have HR4q:=hid (rangeB HR4.out hg3 hBq);have HOq2:=hid (HOq.out.kept (gby_below (r:=none) hBq) (Classical.em _));have HBq2:=hid (HBq.out.trans (hBq.mono HBq.out.size));clear y0 y1 y2 x0 x1 x2 cA HOq hBq;go_upto_region 16 with fail;obtain⟨V1,hV1⟩:∃V,V=wq.drew.setCells gq ((q+1)*8) (#[.int .i64 t2,.int .i64 r2,.int .i64 n2,.int .i64 pt2,.int .i64 pr2,.int .i64 pi2,.string nm2,.bool dd2]:Array Value).toList:=⟨_,rfl⟩;have hP1:V1.ownsRow w.heap.size 161 8 (.slice (some ⟨gq,0,none⟩) (m+1) cap) (m+1) (((slid M (⟨⟨⟨nt,nr⟩,ni⟩,⟨⟨pt,pr⟩,pi⟩,nm,dd⟩:Plc) (q+1)).set (q+1) (⟨⟨⟨t2,r2⟩,n2⟩,⟨⟨pt2,pr2⟩,pi2⟩,nm2,dd2⟩:Plc)).flatMap plcL)∧wq.drew.grownBy V1 (some gq):=by rw[hV1];exact ownN_put (f:=plcL) (λ_=>rfl) (by decide) HL1.out (show wq.drew.ownsRow _ _ _ _ _ _ from HOq2.out) (by omega) (⟨⟨⟨t2,r2⟩,n2⟩,⟨⟨pt2,pr2⟩,pi2⟩,nm2,dd2⟩:Plc)
         obtain⟨V2,hV2⟩:∃V,V=V1.setCells gq (q*8) (#[.int .i64 nt,.int .i64 nr,.int .i64 ni,.int .i64 pt,.int .i64 pr,.int .i64 pi,.string nm,.bool dd]:Array Value).toList:=⟨_,rfl⟩;have hP2:V2.ownsRow w.heap.size 161 8 (.slice (some ⟨gq,0,none⟩) (m+1) cap) (m+1) ((((slid M (⟨⟨⟨nt,nr⟩,ni⟩,⟨⟨pt,pr⟩,pi⟩,nm,dd⟩:Plc) (q+1)).set (q+1) (⟨⟨⟨t2,r2⟩,n2⟩,⟨⟨pt2,pr2⟩,pi2⟩,nm2,dd2⟩:Plc)).set q (⟨⟨⟨nt,nr⟩,ni⟩,⟨⟨pt,pr⟩,pi⟩,nm,dd⟩:Plc)).flatMap plcL)∧V1.grownBy V2 (some gq):=by rw[hV2];exact ownN_put (f:=plcL) (λ_=>rfl) (by decide) (by rw[List.length_set];exact HL1.out) hP1.1 (by omega) (⟨⟨⟨nt,nr⟩,ni⟩,⟨⟨pt,pr⟩,pi⟩,nm,dd⟩:Plc)
         obtain⟨g5,e5,ht5⟩:=own_there (show wq.drew.ownsRow _ _ _ _ _ _ from HOq2.out) (k:=q+1) (by omega);cases e5;obtain⟨g6,e6,ht6⟩:=own_there hP1.1 (k:=q) (by omega);cases e6;have HP2:=hid hP2.1;have HG2:=hid (show wq.heap.size<=V2.heap.size∧(Below w.heap.size w wq->w.heap.size<=gq->Below w.heap.size w V2) from⟨Nat.le_trans (show wq.drew.heap.size<=V1.heap.size from hP1.2.size) hP2.2.size,λhb hl=>(hb.drew.grown hP1.2 (by exact hb.size) (λb e=>by cases e;exact hl)).grown hP2.2 (Nat.le_trans hb.size (show wq.drew.heap.size<=V1.heap.size from hP1.2.size)) (λb e=>by cases e;exact hl)⟩);have HV1:=hid hV1;have HV2:=hid hV2;have HT5:=hid ht5;have HT6:=hid ht6;have HAY:=hid (show(#[.int .i64 t2,.int .i64 r2,.int .i64 n2,.int .i64 pt2,.int .i64 pr2,.int .i64 pi2,.string nm2,.bool dd2]:Array Value).all (·.oneCell')=true by rw[<-Array.all_toList];rfl);have HAX:=hid (show(#[.int .i64 nt,.int .i64 nr,.int .i64 ni,.int .i64 pt,.int .i64 pr,.int .i64 pi,.string nm,.bool dd]:Array Value).all (·.oneCell')=true by rw[<-Array.all_toList];rfl);clear hP1 hP2 hV1 hV2 ht5 ht6;refine wp_region_held (S:=λ_=>True) (by kernel_rfl) ?_
         try(change wpAnyH _ _ _ _ _ _ _ _ (World.drew _))
         refine tk 0 (.slice (some ⟨gq,0,none⟩) (m+1) cap) (trivial) ?_;go_simp;refine tk 1 (.int .i64 ((q:Int)+1)) (trivial) ?_;go_simp;refine tk 2 (.slice (some ⟨gq,0,none⟩) (m+1) cap) (trivial) ?_;go_simp;refine tk 3 (.int .i64 ((q:Int)+1)) (trivial) ?_;go_simp;refine tk 4 (.int .i64 (q:Int)) (trivial) ?_;go_simp;refine tk 5 (.slice (some ⟨gq,0,none⟩) (m+1) cap) (trivial) ?_;go_simp;refine tk 6 (.int .i64 ((q:Int)+1)) (trivial) ?_;go_simp;refine tk 7 (.int .i64 (q:Int)) (trivial) ?_;go_simp;refine tk 8 (.pointer (some ⟨gq,q*8,none⟩)) (trivial) ?_;go_simp;refine tk 10 (.slice (some ⟨gq,0,none⟩) (m+1) cap) (trivial) ?_;go_simp;refine tk 11 (.int .i64 ((q:Int)+1)) (trivial) ?_;go_simp;refine tk 12 (.pointer (some ⟨gq,(q+1)*8,none⟩)) (trivial) ?_;go_simp;refine wpAnyH_ready (rs:=[9,13]) (by kernel_rfl) (by simp) ?_;refine AllReadyH.cons rfl (λK hK=> ?_) (AllReadyH.cons rfl (λK hK=> ?_) AllReadyH.nil)
         focus
          refine step_load_mid rfl _ _ rfl gq (q*8) rfl [.int .i64 t2,.int .i64 r2,.int .i64 n2,.int .i64 pt2,.int .i64 pr2,.int .i64 pi2,.string nm2,.bool dd2] _ (show wq.drew.rangeAt _ _ _ from HR3q.out) Tryz.underlying161 rfl (by kernel_rfl) ?_;refine hK.out _ _ (trivial) (λ_=> ?_);clear hK K;refine rd1 13 λK hK=> ?_;refine step_load_mid rfl _ _ rfl gq ((q+1)*8) rfl [.int .i64 nt,.int .i64 nr,.int .i64 ni,.int .i64 pt,.int .i64 pr,.int .i64 pi,.string nm,.bool dd] _ (show wq.drew.rangeAt _ _ _ from HR4q.out) Tryz.underlying161 rfl (by kernel_rfl) ?_;refine hK.out _ _ (trivial) (λ_=> ?_);clear hK K
         rotate_left
         focus
          refine step_load_mid rfl _ _ rfl gq ((q+1)*8) rfl [.int .i64 nt,.int .i64 nr,.int .i64 ni,.int .i64 pt,.int .i64 pr,.int .i64 pi,.string nm,.bool dd] _ (show wq.drew.rangeAt _ _ _ from HR4q.out) Tryz.underlying161 rfl (by kernel_rfl) ?_;refine hK.out _ _ (trivial) (λ_=> ?_);clear hK K;refine rd1 9 λK hK=> ?_;refine step_load_mid rfl _ _ rfl gq (q*8) rfl [.int .i64 t2,.int .i64 r2,.int .i64 n2,.int .i64 pt2,.int .i64 pr2,.int .i64 pi2,.string nm2,.bool dd2] _ (show wq.drew.rangeAt _ _ _ from HR3q.out) Tryz.underlying161 rfl (by kernel_rfl) ?_;refine hK.out _ _ (trivial) (λ_=> ?_);clear hK K
         all_goals
          refine tk 14 (.pointer (some ⟨gq,(q+1)*8,none⟩)) (trivial) ?_;go_simp;refine rd1 15 λK hK=> ?_;refine step_store_mid rfl _ _ _ rfl gq ((q+1)*8) #[.int .i64 t2,.int .i64 r2,.int .i64 n2,.int .i64 pt2,.int .i64 pr2,.int .i64 pi2,.string nm2,.bool dd2] (by rfl) (by rfl) HT5.out (by kernel_rfl) HAY.out ?_;rw[<-HV1.out];refine hK.out _ _ (trivial) (λ_=> ?_);clear hK K;refine tk 16 (.pointer (some ⟨gq,q*8,none⟩)) (trivial) ?_;go_simp;refine rd1 17 λK hK=> ?_;refine step_store_mid rfl _ _ _ rfl gq (q*8) #[.int .i64 nt,.int .i64 nr,.int .i64 ni,.int .i64 pt,.int .i64 pr,.int .i64 pi,.string nm,.bool dd] (by rfl) (by rfl) HT6.out (by kernel_rfl) HAX.out ?_;rw[<-HV2.out];refine hK.out _ _ (trivial) (λ_=> ?_);clear hK K;refine wpAnyH_done (by kernel_rfl) ?_ _;go_simp;go_wp2;go_roundw
          case rel=>exact⟨q,by go_num,by omega,HIX2,hid (by rw[<-HSW.out];exact HP2.out),hid (HG2.out.2 HBq2.out (HOq2.out.lt gq rfl).1)⟩
          case measure=>(simp[RowKit.intOf];try omega)
       ·obtain rfl:q=0:=by omega
        go_upto_region 14 with fail;refine rqb ?_
        repeat(any_goals(first|go_big_quiet_step (fail)|quiet_step (fail)))
        refine qz λwq hBq=> ?_;have HS8:=hid (show((N.take (k+1)).foldl stepP [])=slid M (⟨⟨⟨nt,nr⟩,ni⟩,⟨⟨pt,pr⟩,pi⟩,nm,dd⟩:Plc) 0 by rw[HS9.out];unfold insB;rw[<-HIX.out];rfl);have HL1:=hid (show m+1=(slid M (⟨⟨⟨nt,nr⟩,ni⟩,⟨⟨pt,pr⟩,pi⟩,nm,dd⟩:Plc) 0).length by rw[slid_len,<-HML.out]);have HOx:=hid (HOq.out.kept (gby_below (r:=none) hBq) (Classical.em _));have HBx:=hid (HBq.out.trans (hBq.mono HBq.out.size));go_wp2;go_roundw
        case rel=>exact⟨k+1,some ⟨gq,0,none⟩,cap,m+1,_,by omega,by go_num,rfl,by omega,HL1,hid HS8.out.symm,HOx,HBx⟩
        case measure=>(simp[RowKit.intOf];omega)
     | some kf=>
      obtain⟨hkf,-⟩:=findP_lt hfd;have hkm:kf<m:=by rw[HML.out];exact hkf
      have HS9:=hid (show((N.take (k+1)).foldl stepP [])=M.set kf ⟨⟨⟨nt,nr⟩,ni⟩,⟨⟨pt,pr⟩,pi⟩,nm,(M.getD kf plc0).dir⟩ by rw[HST.out,if_neg (by decide),hfd]);rw[hfd] at HFD;have k1:(0:Int)<=(kf:Int):=by omega
      have k2:(kf:Int)<(m:Int):=by omega
      clear hfd HST
      go_upto_region 10 with(first
       |(go_at_call 168;refine(HWI.out W HBX.out).mono ?_;rintro e w2 ⟨rfl,hB2⟩;have HC2:=hid ((hB2.block _ (lt_of_block HCX.out)).trans HCX.out);have HBY:=hid (HBX.out.trans (hB2.mono HBX.out.size));have HB2:=hid (HBW.out.trans (hB2.mono HBW.out.size));clear hB2;have v0:w2.cell? ⟨wr.heap.size,0,none⟩=some (.int .i64 nt):=cell_of_row _ _ _ _ _ _ HC2.out;have v1:w2.cell? ⟨wr.heap.size,1,none⟩=some (.int .i64 nr):=cell_of_row _ _ _ _ _ _ HC2.out;have v2:w2.cell? ⟨wr.heap.size,2,none⟩=some (.int .i64 ni):=cell_of_row _ _ _ _ _ _ HC2.out;have v3:w2.cell? ⟨wr.heap.size,3,none⟩=some (.int .i64 pt):=cell_of_row _ _ _ _ _ _ HC2.out;have v4:w2.cell? ⟨wr.heap.size,4,none⟩=some (.int .i64 pr):=cell_of_row _ _ _ _ _ _ HC2.out;have v5:w2.cell? ⟨wr.heap.size,5,none⟩=some (.int .i64 pi):=cell_of_row _ _ _ _ _ _ HC2.out;have v6:w2.cell? ⟨wr.heap.size,6,none⟩=some (.string nm):=cell_of_row _ _ _ _ _ _ HC2.out;have v7:w2.cell? ⟨wr.heap.size,7,none⟩=some (.bool dd):=cell_of_row _ _ _ _ _ _ HC2.out)
       |(go_at_call 169;refine(HFD.out w2 HBY.out).mono ?_;rintro e w3 ⟨rfl,hB3⟩;have HC3:=hid ((hB3.block _ (lt_of_block HC2.out)).trans HC2.out);have HBZ:=hid (HBY.out.trans (hB3.mono HBY.out.size));have HB3:=hid (HB2.out.trans (hB3.mono HB2.out.size));have HO3:=hid (HO.out.kept (gby_below (r:=none) HBZ.out) (Classical.em _));clear hB3;dsimp only[ixI]))
      obtain⟨g3,rfl,-,hg3,hr3⟩:=ownN_range (f:=plcL) (λ_=>rfl) HML.out HO3.out hkm plc0;obtain⟨d2,hd2⟩:∃d,d=(M.getD kf plc0).dir:=⟨_,rfl⟩;have hc7:w3.cell? ⟨g3,kf*8+7,none⟩=some (.bool d2):=by rw[hd2];exact hr3 7 _ rfl
      rw[<-hd2] at HS9;have hgn:(Value.slice (some ⟨g3,0,none⟩) m c').ownBlock≠some wr.heap.size:=λe=>by
       have e:some g3=some wr.heap.size:=e;injection e with e;have:=(HO.out.lt g3 rfl).2;omega
      have c7:=cw7 HC3.out;have f7:w3.frozen? ⟨wr.heap.size,7,none⟩=false:=frozen_of_row _ _ _ _ _ HC3.out;have HGN:=hid hgn;clear hr3 hd2 hgn;go_upto_region 11 with fail;obtain⟨V1,hV1⟩:∃V,V=w3.setCell ⟨wr.heap.size,7,none⟩ (.bool d2):=⟨_,rfl⟩;have HC4:=hid (show V1.heap[wr.heap.size]? =some (.cells #[nt,nr,ni,pt,pr,pi,nm,d2] 161 (0,0)) by rw[hV1];exact set_obj (c:=#[.int .i64 nt,.int .i64 nr,.int .i64 ni,.int .i64 pt,.int .i64 pr,.int .i64 pi,.string nm,.bool dd]) HC3.out 7 (.bool d2) rfl);have HO4:=hid (show V1.ownsRow w.heap.size 161 8 (.slice (some ⟨g3,0,none⟩) m c') m (M.flatMap plcL) by rw[hV1];exact own_set HO3.out HGN.out 7 (.bool d2));have HB4:=hid (show Below w.heap.size w V1 by rw[hV1];exact HB3.out.grown (gby_set wr.heap.size 7 (.bool d2)) HB3.out.size (λb e=>by cases e;exact hsz));have hput:=ownN_put (f:=plcL) (λ_=>rfl) (by decide) HML.out HO4.out hkm (⟨⟨⟨nt,nr⟩,ni⟩,⟨⟨pt,pr⟩,pi⟩,nm,d2⟩:Plc);obtain⟨V2,hV2⟩:∃V,V=V1.setCells g3 (kf*8) (#[.int .i64 nt,.int .i64 nr,.int .i64 ni,.int .i64 pt,.int .i64 pr,.int .i64 pi,.string nm,.bool d2]:Array Value).toList:=⟨_,rfl⟩;have HO5:=hid (show V2.ownsRow w.heap.size 161 8 (.slice (some ⟨g3,0,none⟩) m c') m ((M.set kf (⟨⟨⟨nt,nr⟩,ni⟩,⟨⟨pt,pr⟩,pi⟩,nm,d2⟩:Plc)).flatMap plcL) by rw[hV2];exact hput.1);have HB5:=hid (show Below w.heap.size w V2 by rw[hV2];exact HB4.out.grown hput.2 HB4.out.size (λb e=>by cases e;exact(HO4.out.lt g3 rfl).1));obtain⟨g6,e6,ht6⟩:=own_there HO4.out hkm;cases e6;have HT6:=hid ht6;have HV2:=hid hV2
      have HAL:=hid (show(#[.int .i64 nt,.int .i64 nr,.int .i64 ni,.int .i64 pt,.int .i64 pr,.int .i64 pi,.string nm,.bool d2]:Array Value).all (·.oneCell')=true by rw[<-Array.all_toList];rfl);have HML2:=hid (show m=(M.set kf (⟨⟨⟨nt,nr⟩,ni⟩,⟨⟨pt,pr⟩,pi⟩,nm,d2⟩:Plc)).length by rw[List.length_set];exact HML.out);rw[<-hV1];clear hput ht6 hV2 hV1 c7 f7 hc7 v0 v1 v2 v3 v4 v5 v6 v7 z0 z1 z2 z3 z4 z5 z6 z7
      go_wp2_with (first
       |(refine load_at rfl _ _ rfl wr.heap.size _ _ _ rfl HC4.out Tryz.underlying161 rfl ?_ ?_;kernel_rfl)
       |(refine wpList_store_mid rfl _ _ _ rfl g3 (kf*8) #[.int .i64 nt,.int .i64 nr,.int .i64 ni,.int .i64 pt,.int .i64 pr,.int .i64 pi,.string nm,.bool d2] rfl rfl HT6.out (by kernel_rfl) HAL.out ?_;rw[<-HV2.out]))
      go_roundw
      case rel=>exact⟨k+1,some ⟨g3,0,none⟩,c',m,_,by omega,by go_num,rfl,by omega,HML2,hid HS9.out.symm,HO5,HB5⟩
      case measure=>(simp[RowKit.intOf];omega)
  ·obtain rfl:k=N.length:=by omega
   have i2:¬(N.length:Int)<(N.length:Int):=by omega
   have HM9:=hid (show M=R by rw[HRR.out];have h9:=HM.out;rw[List.take_length] at h9;exact h9);go_wp2;go_ret;refine⟨A',c',by rw[<-HM9.out,<-HML.out];rfl,?_,HB1.out.trans (HBr.out.mono HB1.out.size)⟩;rw[<-HM9.out,<-HML.out];exact own_base HO.out HB1.out.size
def opsM (p:Plc) (l:List Gop):List Plc:=(l.filter (λo=>decide (o.kind=0) && o.node.eqb p.n)).map λo=>⟨p.n,p.p,p.name,o.dir⟩
def madeP (L:List (Grp×GrX)) (p:Plc):List Plc:=L.flatMap λg=>opsM p g.1.ops
def madeL (L:List (Grp×GrX)) (P:List Plc):List Plc:=P.flatMap (madeP L)
theorem opsM_succ (p:Plc) {l:List Gop} {j:Nat} (h:j<l.length):opsM p (l.take (j+1))=opsM p (l.take j)++(if (decide ((l.getD j (opO 0 .zero)).kind=0) && (l.getD j (opO 0 .zero)).node.eqb p.n)=true then [⟨p.n,p.p,p.name,(l.getD j (opO 0 .zero)).dir⟩] else []):=by
 unfold opsM;rw[takeD_succ h (opO 0 .zero),List.filter_append,List.map_append];congr 1;generalize l.getD j (opO 0 .zero)=o;cases e:(decide (o.kind=0) && o.node.eqb p.n)<;>simp[List.filter,e]
theorem made_any (L:List (Grp×GrX)) (A:Option Addr) (c:Nat) (P:List Plc) (pA:Option Addr) (pc:Nat) (S S2:Nat->Prop) (w:World) (hl:L.length<=100) (hlo:∀p∈L,p.1.ops.length<=100) (hp:P.length<=10000) (hR:RowGr w A L) (hG:∀p∈L,GrG w S p) (hP:RowF w S2 pA 8 plcL plc0 P):
  Calls Tryz.prog 110 #[.slice A L.length c,.slice pA P.length pc] w λe w'=>∃A' c',e= .returned (.slice A' (madeL L P).length c')∧w'.ownsRow w.heap.size 161 8 (.slice A' (madeL L P).length c') (madeL L P).length ((madeL L P).flatMap plcL)∧Below w.heap.size w w':=by
 obtain⟨i0,hi,hz0,hz1,hz2⟩:=info_parts info_plc;have HR:=hid hR;have HG:=hid hG;have HP:=hid hP;have HLO:=hid hlo;clear hR hG hP hlo;go_enter Tryz.func110,Tryz.ntmps110;go_upto_region 3 with fail;go_loopw [5,6] (λo i wr=>∃(k0:Nat) (A':Option Addr) (c' m:Nat),k0<=P.length∧i= .int .i64 k0∧o= .slice A' m c'∧m<=k0*10000∧Hid (m=(madeL L (P.take k0)).length)∧Hid (wr.ownsRow w.heap.size 161 8 (.slice A' m c') m ((madeL L (P.take k0)).flatMap plcL))∧Hid (Below w.heap.size w wr)) (λo i _=>P.length-(RowKit.intOf i).toNat)
 case atStart=>exact⟨0,none,0,0,Nat.zero_le _,rfl,rfl,Nat.zero_le _,hid rfl,hid (World.ownsRow_nil _ _ _ _),hid (Below.refl _ _)⟩
 case round=>
  obtain⟨k0,A',c',m,hk0,rfl,rfl,hmk0,HML,HO,HBr⟩:=hrel;by_cases hlt0:k0<P.length
  ·have i1:(0:Int)<=(k0:Int):=by omega
   have i2:(k0:Int)<(P.length:Int):=by omega
   obtain⟨pb,po,rfl,-,hpb,hprange⟩:=HP.out.range (λ_=>rfl) hlt0;have hst0:madeL L (P.take (k0+1))=madeL L (P.take k0)++madeP L (P.getD k0 plc0):=by rw[takeD_succ hlt0 plc0];simp[madeL]
   generalize madeL L (P.take k0)=N0 at *;generalize P.getD k0 plc0=q at *;obtain⟨⟨⟨qt,qr⟩,qi⟩,⟨⟨st,sr⟩,si⟩,qm,qd⟩:=q;have HPW:=hid (λW (hB:Below w.heap.size w W)=>show W.rangeAt pb (po+k0*8) [.int .i64 qt,.int .i64 qr,.int .i64 qi,.int .i64 st,.int .i64 sr,.int .i64 si,.string qm,.bool qd] from rangeB hprange hpb hB);have HST0:=hid hst0;clear hprange hpb hst0;generalize wr=w0 at *;go_upto_region 6 with fail;go_loopw [5,7] (λo i wr=>∃(k:Nat) (A':Option Addr) (c' m:Nat),k<=L.length∧i= .int .i64 k∧o= .slice A' m c'∧m<=k0*10000+k*100∧Hid (m=(N0++madeP (L.take k) ⟨⟨⟨qt,qr⟩,qi⟩,⟨⟨st,sr⟩,si⟩,qm,qd⟩).length)∧Hid (wr.ownsRow w.heap.size 161 8 (.slice A' m c') m ((N0++madeP (L.take k) ⟨⟨⟨qt,qr⟩,qi⟩,⟨⟨st,sr⟩,si⟩,qm,qd⟩).flatMap plcL))∧Hid (Below w.heap.size w wr)) (λo i _=>L.length-(RowKit.intOf i).toNat)
   case atStart=>exact⟨0,A',c',m,Nat.zero_le _,rfl,rfl,by omega,hid (by rw[HML.out];simp[madeP]),hid (by have h9:=HO.out;simpa[madeP] using h9),HBr⟩
   case round=>
    obtain⟨k,A',c',m,hk,rfl,rfl,hmk,HML,HO,HBr⟩:=hrel;by_cases hlt:k<L.length
    ·have j1:(0:Int)<=(k:Int):=by omega
     have j2:(k:Int)<(L.length:Int):=by omega
     obtain⟨rb,ro,rfl,hrb,hrange⟩:=HR.out.range hlt;have hst:madeP (L.take (k+1)) ⟨⟨⟨qt,qr⟩,qi⟩,⟨⟨st,sr⟩,si⟩,qm,qd⟩=madeP (L.take k) ⟨⟨⟨qt,qr⟩,qi⟩,⟨⟨st,sr⟩,si⟩,qm,qd⟩++opsM ⟨⟨⟨qt,qr⟩,qi⟩,⟨⟨st,sr⟩,si⟩,qm,qd⟩ (L.getD k gp0).1.ops:=by rw[takeD_succ hlt gp0];simp[madeP]
     have hop:=(HG.out _ (getD_memF hlt gp0)).ops;have hol:=HLO.out _ (getD_memF hlt gp0);generalize madeP (L.take k) ⟨⟨⟨qt,qr⟩,qi⟩,⟨⟨st,sr⟩,si⟩,qm,qd⟩=N at *;generalize L.getD k gp0=p at *;obtain⟨⟨⟨t,r⟩,n,dv,⟨ut,ur⟩,ops⟩,⟨dA,dc,oA,oc⟩⟩:=p;obtain⟨X,hX1,hX2⟩:=hop;have hol:ops.length<=100:=hol;have HRW:=hid (λW (hB:Below w.heap.size w W)=>show W.rangeAt rb (ro+k*7) [.int .i64 t,.int .i64 r,.int .i64 n,.slice dA dv.length dc,.int .i64 ut,.int .i64 ur,.slice oA ops.length oc] from rangeB hrange hrb hB);have HX1:=hid hX1;have HST:=hid (show madeP (L.take (k+1)) ⟨⟨⟨qt,qr⟩,qi⟩,⟨⟨st,sr⟩,si⟩,qm,qd⟩=N++opsM ⟨⟨⟨qt,qr⟩,qi⟩,⟨⟨st,sr⟩,si⟩,qm,qd⟩ ops from hst);clear hrange hrb hst hX1 hX2;generalize wr=w1 at *;go_upto_region 9 with fail;go_loopw [5,8] (λo i wr=>∃(j:Nat) (A':Option Addr) (c' m:Nat),j<=ops.length∧i= .int .i64 j∧o= .slice A' m c'∧m<=k0*10000+k*100+j∧Hid (m=(N0++N++opsM ⟨⟨⟨qt,qr⟩,qi⟩,⟨⟨st,sr⟩,si⟩,qm,qd⟩ (ops.take j)).length)∧Hid (wr.ownsRow w.heap.size 161 8 (.slice A' m c') m ((N0++N++opsM ⟨⟨⟨qt,qr⟩,qi⟩,⟨⟨st,sr⟩,si⟩,qm,qd⟩ (ops.take j)).flatMap plcL))∧Hid (Below w.heap.size w wr)) (λo i _=>ops.length-(RowKit.intOf i).toNat)
     case atStart=>exact⟨0,A',c',m,Nat.zero_le _,rfl,rfl,by omega,hid (by rw[HML.out];simp[opsM]),hid (by have h9:=HO.out;simpa[opsM] using h9),HBr⟩
     case round=>
      obtain⟨j,A',c',m,hj,rfl,rfl,hmj,HML,HO,HBr⟩:=hrel;have HRG:=hid (HRW.out wr HBr.out);have hszr:=HBr.out.size;have g6:wr.cell? ⟨rb,ro+k*7+6,none⟩=some (.slice oA ops.length oc):=HRG.out 6 _ rfl;by_cases hjl:j<ops.length
      ·have l1:(0:Int)<=(j:Int):=by omega
       have l2:(j:Int)<(ops.length:Int):=by omega
       obtain⟨ob,oo,rfl,-,hob,hoc⟩:=HX1.out j hjl;have hor:=op_range hoc;have hst2:=opsM_succ ⟨⟨⟨qt,qr⟩,qi⟩,⟨⟨st,sr⟩,si⟩,qm,qd⟩ hjl;generalize ops.getD j (opO 0 .zero)=o at *;generalize X j=x at *;obtain⟨kd,⟨⟨nt,nr⟩,ni⟩,⟨⟨pt,pr⟩,pi⟩,nm,dd,dots,⟨⟨at_,ar⟩,ai⟩,⟨⟨et,er⟩,ei⟩,tx,elems⟩:=o;obtain⟨sA,sc,eA,ec⟩:=x;have HOR:=hid (λW (hB:Below w.heap.size w W)=>show W.rangeAt ob (oo+j*18) [.int .i64 kd,.int .i64 nt,.int .i64 nr,.int .i64 ni,.int .i64 pt,.int .i64 pr,.int .i64 pi,.string nm,.bool dd,.slice sA dots.length sc,.int .i64 at_,.int .i64 ar,.int .i64 ai,.int .i64 et,.int .i64 er,.int .i64 ei,.string tx,.slice eA elems.length ec] from rangeB hor hob hB);obtain⟨b1,hb1⟩:∃b,b=decide (kd=0):=⟨_,rfl⟩;obtain⟨b2,hb2⟩:∃b,b=Gid.eqb ⟨⟨nt,nr⟩,ni⟩ ⟨⟨qt,qr⟩,qi⟩:=⟨_,rfl⟩;have q1:(kd == 0)=b1:=by rw[hb1];rfl
       have q2:=eq_id nt nr ni qt qr qi b2 hb2.symm;have HS2:=hid (show opsM ⟨⟨⟨qt,qr⟩,qi⟩,⟨⟨st,sr⟩,si⟩,qm,qd⟩ (ops.take (j+1))=opsM ⟨⟨⟨qt,qr⟩,qi⟩,⟨⟨st,sr⟩,si⟩,qm,qd⟩ (ops.take j)++(if (b1 && b2)=true then [(⟨⟨⟨qt,qr⟩,qi⟩,⟨⟨st,sr⟩,si⟩,qm,dd⟩:Plc)] else []) by rw[hst2,hb1,hb2]);have HOw:=hid (HOR.out wr HBr.out);have HPw:=hid (HPW.out wr HBr.out);have y6:=cell_regrown g6;have z0:=cell_regrown (w:=wr) (a:=⟨ob,oo+j*18,none⟩) (v:= .int .i64 kd) (HOw.out 0 _ rfl);have z1:=cell_regrown (w:=wr) (a:=⟨ob,oo+j*18+1,none⟩) (v:= .int .i64 nt) (HOw.out 1 _ rfl);have z2:=cell_regrown (w:=wr) (a:=⟨ob,oo+j*18+2,none⟩) (v:= .int .i64 nr) (HOw.out 2 _ rfl);have z2':=cell_regrown (w:=wr) (a:=⟨ob,oo+j*18+1+1,none⟩) (v:= .int .i64 nr) (HOw.out 2 _ rfl);have z3:=cell_regrown (w:=wr) (a:=⟨ob,oo+j*18+3,none⟩) (v:= .int .i64 ni) (HOw.out 3 _ rfl);have z3':=cell_regrown (w:=wr) (a:=⟨ob,oo+j*18+1+2,none⟩) (v:= .int .i64 ni) (HOw.out 3 _ rfl);have p0:=cell_regrown (w:=wr) (a:=⟨pb,po+k0*8,none⟩) (v:= .int .i64 qt) (HPw.out 0 _ rfl);have p1:=cell_regrown (w:=wr) (a:=⟨pb,po+k0*8+1,none⟩) (v:= .int .i64 qr) (HPw.out 1 _ rfl);have p2:=cell_regrown (w:=wr) (a:=⟨pb,po+k0*8+2,none⟩) (v:= .int .i64 qi) (HPw.out 2 _ rfl);clear hor hob hoc hst2 hb1 hb2;cases b1 with
       |false=>
        go_upto_region 11 with fail;refine rqb ?_
        repeat(any_goals(first|go_big_quiet_step (fail)|quiet_step (fail)))
        refine qz λwq hBq=> ?_;have HOq:=hid (HO.out.kept (gby_below (r:=none) hBq) (Classical.em _));have HBq2:=hid (HBr.out.trans (hBq.mono hszr));go_wp2;go_roundw
        case rel=>exact⟨j+1,A',c',m,by omega,by go_num,rfl,by omega,hid (by rw[HS2.out];simpa using HML.out),hid (by rw[HS2.out];simpa using HOq.out),HBq2⟩
        case measure=>(simp[RowKit.intOf];omega)
       | true=>
        cases b2 with
        |false=>
         go_upto_region 11 with fail;refine rqb ?_
         repeat(any_goals(first|go_big_quiet_step (fail)|quiet_step (fail)))
         refine qz λwq hBq=> ?_;have HOq:=hid (HO.out.kept (gby_below (r:=none) hBq) (Classical.em _));have HBq2:=hid (HBr.out.trans (hBq.mono hszr));go_wp2;go_roundw
         case rel=>exact⟨j+1,A',c',m,by omega,by go_num,rfl,by omega,hid (by rw[HS2.out];simpa using HML.out),hid (by rw[HS2.out];simpa using HOq.out),HBq2⟩
         case measure=>(simp[RowKit.intOf];omega)
        | true=>
         go_upto_region 11 with fail;refine rqb ?_
         repeat(any_goals(first|go_big_quiet_step (fail)|quiet_step (fail)))
         refine qz λwq hBq=> ?_;have HOq:=hid (HO.out.kept (gby_below (r:=none) hBq) (Classical.em _));have HBq2:=hid (HBr.out.trans (hBq.mono hszr));have HPq:=hid (HPW.out wq HBq2.out);have HOo:=hid (HOR.out wq HBq2.out);have HGq:=hid (HRW.out wq HBq2.out);have hszq:=HBq2.out.size;clear y6 z0 z1 z2 z2' z3 z3' p0 p1 p2 g6
         go_upto_region 13 with(first
          |(refine wpList_load_mid rfl _ _ rfl pb (po+k0*8) rfl [.int .i64 qt,.int .i64 qr,.int .i64 qi,.int .i64 st,.int .i64 sr,.int .i64 si,.string qm,.bool qd] _ HPq.out Tryz.underlying161 rfl (by kernel_rfl) ?_)
          |(refine store_last rfl _ _ _ rfl _ _ _ _ rfl ?_ rfl ?_ ?_ ?_ ?_;(focus(simp;done));kernel_rfl;rfl;rfl))
         have hba:=HBq2.out.alloc hszq (.cells #[qt,qr,qi,st,sr,si,qm,qd] 161);have hbx:Below wq.heap.size wq (wq.alloc (.cells #[qt,qr,qi,st,sr,si,qm,qd] 161)):=(Below.refl _ _).alloc (Nat.le_refl _) _;have HCX:=hid (heap_alloc_new wq (.cells #[qt,qr,qi,st,sr,si,qm,qd] 161));generalize hW:wq.alloc (.cells #[qt,qr,qi,st,sr,si,qm,qd] 161)=W at *;have HBW:=hid hba;have HOW:=hid (HOq.out.kept (gby_below (r:=none) hbx) (Classical.em _));have hOw9:=HOR.out W hba;have hGw9:=HRW.out W hba;have c6:W.cell? ⟨rb,ro+k*7+6,none⟩=some (.slice (some ⟨ob,oo,none⟩) ops.length oc):=hGw9 6 _ rfl;have c8:W.cell? ⟨ob,oo+j*18+8,none⟩=some (.bool dd):=hOw9 8 _ rfl;have c7:=cw7 HCX.out;have f7:W.frozen? ⟨wq.heap.size,7,none⟩=false:=frozen_of_row _ _ _ _ _ HCX.out;have hqn:∀b,(Value.slice A' m c').ownBlock=some b->b≠wq.heap.size:=λb e=>by have:=(HOq.out.lt b e).2;omega
         have HQN:=hid (show(Value.slice A' m c').ownBlock≠some wq.heap.size from λe=>hqn _ e rfl);clear hW hba hbx hOw9 hGw9 hqn;go_upto_region 14 with fail;obtain⟨V1,hV1⟩:∃V,V=W.setCell ⟨wq.heap.size,7,none⟩ (.bool dd):=⟨_,rfl⟩;have HC4:=hid (show V1.heap[wq.heap.size]? =some (.cells #[qt,qr,qi,st,sr,si,qm,dd] 161 (0,0)) by rw[hV1];exact set_obj (c:=#[.int .i64 qt,.int .i64 qr,.int .i64 qi,.int .i64 st,.int .i64 sr,.int .i64 si,.string qm,.bool qd]) HCX.out 7 (.bool dd) rfl);have HO4:=hid (show V1.ownsRow w.heap.size 161 8 (.slice A' m c') m ((N0++N++opsM ⟨⟨⟨qt,qr⟩,qi⟩,⟨⟨st,sr⟩,si⟩,qm,qd⟩ (ops.take j)).flatMap plcL) by rw[hV1];exact own_set HOW.out HQN.out 7 (.bool dd));have HB4:=hid (show Below w.heap.size w V1 by rw[hV1];exact HBW.out.grown (gby_set wq.heap.size 7 (.bool dd)) HBW.out.size (λb e=>by cases e;exact hszq));have hsz4:=HB4.out.size;rw[<-hV1];clear hV1 c6 c7 c8 f7
         go_wp2_with (first
          |(refine load_at rfl _ _ rfl wq.heap.size _ _ _ rfl HC4.out Tryz.underlying161 rfl ?_ ?_;kernel_rfl)
          |(at_builtin;refine wpList_append_lies _ rfl _ _ 101 rfl w.heap.size 161 i0 (.agg #[(0:Int),(0:Int),(0:Int),(0:Int),(0:Int),(0:Int),.string ⟨#[]⟩,false]) 8 72 Tryz.underlying101 hi hz0 hz1 hz2 rfl (by decide) (.slice A' m c') m _ rfl (by exact HO4.out.alloc _) ⟨V1.heap.size,0,none⟩ 1 1 [.int .i64 qt,.int .i64 qr,.int .i64 qi,.int .i64 st,.int .i64 sr,.int .i64 si,.string qm,.bool dd] rfl rfl (λj y h=>cellsN V1 [.int .i64 qt,.int .i64 qr,.int .i64 qi,.int .i64 st,.int .i64 sr,.int .i64 si,.string qm,.bool dd] 161 j y h) (oc_of (c:=#[.int .i64 qt,.int .i64 qr,.int .i64 qi,.int .i64 st,.int .i64 sr,.int .i64 si,.string qm,.bool dd]) rfl) (by decide) (by unfold maxLen;omega) (by omega) (by simp;omega) (V1.heap.size+1) (by simp) ?_;intro gq cap w5 hown hgrow ha hlt5;have HO5:=hid hown;have HB5:=hid ((HB4.out.alloc hsz4 _).grown hgrow (by simp;omega) (λb hb=>(HO4.out.lt b hb).1));clear hown hgrow ha hlt5))
         go_roundw
         case rel=>exact⟨j+1,some ⟨gq,0,none⟩,cap,m+1,by omega,by go_num,rfl,by omega,hid (by rw[HS2.out,if_pos (show(true && true)=true from rfl),<-List.append_assoc,List.length_append,<-HML.out];rfl),hid (by rw[HS2.out,if_pos (show(true && true)=true from rfl),<-List.append_assoc,List.flatMap_append];exact HO5.out),HB5⟩
         case measure=>(simp[RowKit.intOf];omega)
      ·obtain rfl:j=ops.length:=by omega
       have l2:¬(ops.length:Int)<(ops.length:Int):=by omega
       have HM9:=hid (show m=(N0++madeP (L.take (k+1)) ⟨⟨⟨qt,qr⟩,qi⟩,⟨⟨st,sr⟩,si⟩,qm,qd⟩).length by rw[HST.out,<-List.append_assoc];have h9:=HML.out;rw[List.take_length] at h9;exact h9);have HO9:=hid (show wr.ownsRow w.heap.size 161 8 (.slice A' m c') m ((N0++madeP (L.take (k+1)) ⟨⟨⟨qt,qr⟩,qi⟩,⟨⟨st,sr⟩,si⟩,qm,qd⟩).flatMap plcL) by rw[HST.out,<-List.append_assoc];have h9:=HO.out;rw[List.take_length] at h9;exact h9);go_wp2;go_roundw
       case rel=>exact⟨k+1,A',c',m,by omega,by go_num,rfl,by omega,HM9,HO9,HBr⟩
       case measure=>(simp[RowKit.intOf];omega)
    ·obtain rfl:k=L.length:=by omega
     have j2:¬(L.length:Int)<(L.length:Int):=by omega
     have HM9:=hid (show m=(madeL L (P.take (k0+1))).length by rw[HST0.out];have h9:=HML.out;rw[List.take_length] at h9;exact h9);have HO9:=hid (show wr.ownsRow w.heap.size 161 8 (.slice A' m c') m ((madeL L (P.take (k0+1))).flatMap plcL) by rw[HST0.out];have h9:=HO.out;rw[List.take_length] at h9;exact h9);go_wp2;go_roundw
     case rel=>exact⟨k0+1,A',c',m,by omega,by go_num,rfl,by omega,HM9,HO9,HBr⟩
     case measure=>(simp[RowKit.intOf];omega)
  ·obtain rfl:k0=P.length:=by omega
   have i2:¬(P.length:Int)<(P.length:Int):=by omega
   have HM9:=hid (show m=(madeL L P).length by have h9:=HML.out;rw[List.take_length] at h9;exact h9);have HO9:=hid (show wr.ownsRow w.heap.size 161 8 (.slice A' m c') m ((madeL L P).flatMap plcL) by have h9:=HO.out;rw[List.take_length] at h9;exact h9);go_wp2;go_ret;refine⟨A',c',by rw[<-HM9.out];rfl,?_,HBr.out⟩;rw[<-HM9.out];exact HO9.out
end
end Go.Proofs.YtkhmicndehlneaaGreatDoor
