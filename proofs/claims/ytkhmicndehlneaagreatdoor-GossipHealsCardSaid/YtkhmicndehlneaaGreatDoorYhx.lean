/- Part 24 of the walks and plain laws that this claim uses, joined. Conditions: as each theorem states. -/
import Init.Data.Nat.Bitwise
import Init.Data.UInt.Lemmas
import Derived.Test.YtkhmicndehlneaaGreatDoorYhw
namespace Go.Proofs.YtkhmicndehlneaaGreatDoor
set_option maxRecDepth 100000
set_option maxHeartbeats 16000000
set_option linter.unusedVariables false
section
open Go.RowKit Go.Lib Go.Sort
attribute [local go_sem ↓] Go.wp_at_zero Go.wp_at_succ
def stepR (out:List Plc) (p:Plc):List Plc:=if (p.n.right && ek p.name && (dZ out p.n).isNone)=true then out++[p] else out
def fG (l:List Plc):List Plc:=l.foldl stepR []
theorem stepR_len (out:List Plc) (p:Plc):(stepR out p).length<=out.length+1:=by
 unfold stepR;split
 ·rw[al];exact aa _
 ·omega
theorem foldR_len:∀(l:List Plc) (out:List Plc),(l.foldl stepR out).length<=out.length+l.length
 | [],out=>aa _
 |x::l,out=>by
  have h1:=foldR_len l (stepR out x)
  have h2:=stepR_len out x
  rw[dU,bG];omega
theorem rightP_len (l:List Plc):(fG l).length<=l.length:=by
 have h:=foldR_len l [];simpa[fG] using h
theorem right15_any (L:List Plc) (A:Option Addr) (c:Nat) (S:Nat->Prop) (w:World) (hl:L.length<=100000) (hnm:∀p∈L,p.name.size<=1000000) (hR:RowF w S A 8 plcL plc0 L):
  Calls Tryz.prog 195 #[.slice A L.length c] w λe w'=>∃A' c',e= .returned (.slice A' (fG L).length c')∧w'.ownsRow w.heap.size 161 8 (.slice A' (fG L).length c') (fG L).length ((fG L).flatMap plcL)∧Below w.heap.size w w':=by
 obtain⟨i0,hi,hz0,hz1,hz2⟩:=bD info_plc;have HR:=hid hR;have HN:=hid hnm;clear hR hnm;go_enter Tryz.func195,Tryz.ntmps195;go_upto_region 3 with fail;go_loopw [3,4] (λo i wr=>∃(k:Nat) (A':Option Addr) (c' m:Nat) (M:List Plc),k<=L.length∧i= .int .i64 k∧o= .slice A' m c'∧m<=k∧Hid (m=M.length)∧Hid (M=fG (L.take k))∧Hid (wr.ownsRow w.heap.size 161 8 (.slice A' m c') m (M.flatMap plcL))∧Hid (Below w.heap.size w wr)) (λo i _=>L.length-(RowKit.intOf i).toNat)
 case atStart=>exact⟨0,none,0,0,[],aq _,rfl,rfl,aa _,hid rfl,hid rfl,hid (aF w w.heap.size 161 8),hid (ag _ _)⟩
 case round=>
  obtain⟨k,A',c',m,M,hk,rfl,rfl,hmk,HML,HM,HO,HBr⟩:=hrel;by_cases hlt:k<L.length
  ·have i1:(0:Int)<=(k:Int):=by omega
   have i2:(k:Int)<(L.length:Int):=by omega
   obtain⟨rb,ro,rfl,-,hrb,hrange⟩:=HR.out.range (λ_=>rfl) hlt;have hst:fG (L.take (k+1))=stepR M (L.getD k plc0):=by rw[HM.out];exact eL _ _ hlt plc0
   have hns:=HN.out _ (bL hlt plc0);generalize L.getD k plc0=p at *;obtain⟨⟨⟨nt,nr⟩,ni⟩,⟨⟨pt,pr⟩,pi⟩,nm,dd⟩:=p;have hns:nm.size<=1000000:=hns;have HRW:=hid (λW (hB:Below w.heap.size w W)=>show W.rangeAt rb (ro+k*8) [nt,nr,ni,pt,pr,pi,nm,dd] from cd hrange hrb hB);have HPX:=hid (show wr.rangeAt rb (ro+k*8) [nt,nr,ni] from bv (pre:=[]) (mid:=[nt,nr,ni]) (post:=[pt,pr,pi,nm,dd]) (HRW.out wr HBr.out));have hsz:=HBr.out.size;obtain⟨b1,hb1⟩:∃b,b=Gid.right ⟨⟨nt,nr⟩,ni⟩:=⟨_,rfl⟩;obtain⟨b2,hb2⟩:∃b,b=ek nm:=⟨_,rfl⟩;have HST:=hid (show fG (L.take (k+1))=if (b1 && b2 && (dZ M ⟨⟨nt,nr⟩,ni⟩).isNone)=true then M++[⟨⟨⟨nt,nr⟩,ni⟩,⟨⟨pt,pr⟩,pi⟩,nm,dd⟩] else M by rw[hst,hb1,hb2];rfl);have HRI:=hid (λW=>show Calls Tryz.prog 192 #[.agg #[nt,nr,ni]] W λe w'=>e= .returned (.bool b1)∧Below W.heap.size W w' from by rw[hb1];exact fY nt nr ni W);have HNM:=hid (λW=>show Calls Tryz.prog 159 #[nm] W λe w'=>e= .returned (.bool b2)∧w'=W from by rw[hb2];exact jI nm W (by omega))
   have HFD:=hid (λW (hB:Below wr.heap.size wr W)=>show Calls Tryz.prog 169 #[.slice A' m c',.agg #[nt,nr,ni]] W λe w'=>e= .returned (.int .i64 (ixI (dZ M ⟨⟨nt,nr⟩,ni⟩)))∧Below W.heap.size W w' from by
    have h9:=gX M A' c' ⟨⟨nt,nr⟩,ni⟩ _ W (by rw[<-HML.out];omega) (ct (f:=plcL) (z:=plc0) (λ_=>rfl) HML.out (HO.out.kept (dg (r:=none) hB) (cw _)))
    rw[<-HML.out] at h9;exact h9)
   clear hst hb1 hb2 hrange hrb;cases b1 with
   | false=>
    have HS9:=hid (show fG (L.take (k+1))=M by rw[HST.out];rfl)
    go_wp2_with (first
     |(refine lM HPX aw ?_)
     |(go_at_call 192;refine(HRI.out wr).mono ?_;rintro e w2 ⟨rfl,hB2⟩;have HB2:=hid (HBr.out.trans (hB2.mono hsz));have HX2:=hid hB2;have HC2:=hid (HRW.out w2 HB2.out);have HO2:=kO HO HX2.out;clear hB2;have v0:w2.cell? ⟨rb,ro+k*8,none⟩=some (.int .i64 nt):=HC2.out 0 _ rfl;have v1:w2.cell? ⟨rb,ro+k*8+1,none⟩=some (.int .i64 nr):=HC2.out 1 _ rfl;have v2:w2.cell? ⟨rb,ro+k*8+2,none⟩=some (.int .i64 ni):=HC2.out 2 _ rfl;have v6:w2.cell? ⟨rb,ro+k*8+6,none⟩=some (.string nm):=HC2.out 6 _ rfl))
    go_roundw
    case rel=>exact⟨k+1,A',c',m,M,by omega,by go_num,rfl,by omega,HML,hid HS9.out.symm,HO2,HB2⟩
    case measure=>(simp[RowKit.intOf];omega)
   | true=>
    cases b2 with
    | false=>
     have HS9:=hid (show fG (L.take (k+1))=M by rw[HST.out];rfl)
     go_wp2_with (first
      |(refine lM HPX aw ?_)
      |(go_at_call 192;refine(HRI.out wr).mono ?_;rintro e w2 ⟨rfl,hB2⟩;have HB2:=hid (HBr.out.trans (hB2.mono hsz));have HX2:=hid hB2;have HC2:=hid (HRW.out w2 HB2.out);have HO2:=kO HO HX2.out;clear hB2;have v0:w2.cell? ⟨rb,ro+k*8,none⟩=some (.int .i64 nt):=HC2.out 0 _ rfl;have v1:w2.cell? ⟨rb,ro+k*8+1,none⟩=some (.int .i64 nr):=HC2.out 1 _ rfl;have v2:w2.cell? ⟨rb,ro+k*8+2,none⟩=some (.int .i64 ni):=HC2.out 2 _ rfl;have v6:w2.cell? ⟨rb,ro+k*8+6,none⟩=some (.string nm):=HC2.out 6 _ rfl)
      |(go_at_call 159;refine(HNM.out w2).mono ?_;rintro e w3 ⟨rfl,rfl⟩))
     go_roundw
     case rel=>exact⟨k+1,A',c',m,M,by omega,by go_num,rfl,by omega,HML,hid HS9.out.symm,HO2,HB2⟩
     case measure=>(simp[RowKit.intOf];omega)
    | true=>
     cases hfd:dZ M ⟨⟨nt,nr⟩,ni⟩ with
     | some kf=>
      have HS9:=hid (show fG (L.take (k+1))=M by rw[HST.out,hfd];rfl);rw[hfd] at HFD;have k1:¬(kf:Int)<0:=by omega
      clear hfd HST
      go_wp2_with (first
       |(refine lM HPX aw ?_)
       |(go_at_call 192;refine(HRI.out wr).mono ?_;rintro e w2 ⟨rfl,hB2⟩;have HB2:=hid (HBr.out.trans (hB2.mono hsz));have HX2:=hid hB2;have HC2:=hid (HRW.out w2 HB2.out);have HO2:=kO HO HX2.out;clear hB2;have v0:w2.cell? ⟨rb,ro+k*8,none⟩=some (.int .i64 nt):=HC2.out 0 _ rfl;have v1:w2.cell? ⟨rb,ro+k*8+1,none⟩=some (.int .i64 nr):=HC2.out 1 _ rfl;have v2:w2.cell? ⟨rb,ro+k*8+2,none⟩=some (.int .i64 ni):=HC2.out 2 _ rfl;have v6:w2.cell? ⟨rb,ro+k*8+6,none⟩=some (.string nm):=HC2.out 6 _ rfl)
       |(go_at_call 159;refine(HNM.out w2).mono ?_;rintro e w3 ⟨rfl,rfl⟩)
       |(go_at_call 169;refine(HFD.out _ HX2.out).mono ?_;rintro e w4 ⟨rfl,hB3⟩;have HB3:=bT HB2 hB3;have HO3:=kO HO2 hB3;clear hB3;dsimp only[ixI]))
      go_roundw
      case rel=>exact⟨k+1,A',c',m,M,by omega,by go_num,rfl,by omega,HML,hid HS9.out.symm,HO3,HB3⟩
      case measure=>(simp[RowKit.intOf];omega)
     | none=>
      have HS9:=hid (show fG (L.take (k+1))=M++[⟨⟨⟨nt,nr⟩,ni⟩,⟨⟨pt,pr⟩,pi⟩,nm,dd⟩] by rw[HST.out,hfd];rfl);rw[hfd] at HFD;clear hfd HST
      go_upto_region 6 with(first
       |(refine lM HPX aw ?_)
       |(go_at_call 192;refine(HRI.out wr).mono ?_;rintro e w2 ⟨rfl,hB2⟩;have HB2:=hid (HBr.out.trans (hB2.mono hsz));have HX2:=hid hB2;have HC2:=hid (HRW.out w2 HB2.out);have HO2:=kO HO HX2.out;clear hB2;have v0:w2.cell? ⟨rb,ro+k*8,none⟩=some (.int .i64 nt):=HC2.out 0 _ rfl;have v1:w2.cell? ⟨rb,ro+k*8+1,none⟩=some (.int .i64 nr):=HC2.out 1 _ rfl;have v2:w2.cell? ⟨rb,ro+k*8+2,none⟩=some (.int .i64 ni):=HC2.out 2 _ rfl;have v6:w2.cell? ⟨rb,ro+k*8+6,none⟩=some (.string nm):=HC2.out 6 _ rfl)
       |(go_at_call 159;refine(HNM.out w2).mono ?_;rintro e w3 ⟨rfl,rfl⟩)
       |(go_at_call 169;refine(HFD.out _ HX2.out).mono ?_;rintro e w4 ⟨rfl,hB3⟩;have HB3:=bT HB2 hB3;have HO3:=kO HO2 hB3;clear hB3;dsimp only[ixI]))
      have HRX:=hid (HRW.out w4 HB3.out);have hsz3:=HB3.out.size;clear v0 v1 v2 v6
      go_wp2_with (first
       |(refine lM HRX ca ?_)
       |(at_builtin;refine bX _ rfl _ _ 101 rfl w.heap.size 161 i0 (.agg #[(0:Int),(0:Int),(0:Int),(0:Int),(0:Int),(0:Int),.string ⟨#[]⟩,false]) 8 72 Tryz.underlying101 hi hz0 hz1 hz2 rfl (by decide) (.slice A' m c') m _ rfl (by exact HO3.out.alloc _) ⟨w4.heap.size,0,none⟩ 1 1 [nt,nr,ni,pt,pr,pi,nm,dd] rfl rfl (λj y h=>dH w4 [nt,nr,ni,pt,pr,pi,nm,dd] 161 j y h) (fw (c:=#[nt,nr,ni,pt,pr,pi,nm,dd]) rfl) (by decide) (by unfold maxLen;omega) (by omega) (by simp;omega) (w4.heap.size+1) (by simp) ?_;intro gq cap w5 hown hgrow ha hlt5;have HO5:=hid hown;have HB5:=hid ((HB3.out.alloc hsz3 _).grown hgrow (by simp;omega) (λb hb=>(HO3.out.lt b hb).1));clear hown hgrow ha hlt5))
      go_roundw
      case rel=>exact⟨k+1,some ⟨gq,0,none⟩,cap,m+1,M++[⟨⟨⟨nt,nr⟩,ni⟩,⟨⟨pt,pr⟩,pi⟩,nm,dd⟩],by omega,by go_num,rfl,by omega,hid (by rw[al,<-HML.out];rfl),hid HS9.out.symm,hid (by rw[aI];exact HO5.out),HB5⟩
      case measure=>(simp[RowKit.intOf];omega)
  ·obtain rfl:k=L.length:=by omega
   have i2:¬(L.length:Int)<(L.length:Int):=by omega
   have HM9:=hid (show M=fG L by have h9:=HM.out;rw[aK] at h9;exact h9);go_wp2;go_ret;refine⟨A',c',by rw[<-HM9.out,<-HML.out];rfl,?_,HBr.out⟩;rw[<-HM9.out,<-HML.out];exact HO.out
def hY (L:List Plc):Nat->Gid->Bool
 |0,_=>false
 | f+1,x=>match dZ L x with
  |none=>false
  |some k=>if (L.getD k plc0).p.eqb .zero=true then true else match dZ L (L.getD k plc0).p with
   |none=>false
   |some k2=>if (L.getD k2 plc0).dir=true then hY L f (L.getD k plc0).p else false
def jO (L:List Plc) (x:Gid):Bool:=hY L (L.length+1) x
theorem rooted_any (L:List Plc) (A:Option Addr) (c:Nat) (xt xr xi:Int) (S:Nat->Prop) (w00:World) (hl:L.length<=100000) (hR:RowF w00 S A 8 plcL plc0 L):
  Calls Tryz.prog 196 #[.slice A L.length c,.agg #[xt,xr,xi]] w00 λe w'=>e= .returned (.bool (jO L ⟨⟨xt,xr⟩,xi⟩))∧Below w00.heap.size w00 w':=by
 obtain⟨ans,hans⟩:∃b,b=jO L ⟨⟨xt,xr⟩,xi⟩:=⟨_,rfl⟩;rw[<-hans];have HANS:=hid hans;have hb0:Below w00.heap.size w00 (w00.alloc (.cells #[xt,xr,xi] 108)):=(ag _ _).alloc (aa _) _;have HB0:=hid hb0;have HX0:=hid (am w00 (.cells #[xt,xr,xi] 108));have HR:=hid hR;clear hR hans hb0;go_enter Tryz.func196,Tryz.ntmps196;go_upto_region 2 with fail;generalize hW:w00.alloc (.cells #[xt,xr,xi] 108)=w at *;clear hW;obtain⟨xb,hxb⟩:∃x,x=w00.heap.size:=⟨_,rfl⟩;have HXB:=hid hxb;rw[<-hxb] at HX0 ⊢;clear hxb;go_loopw [5] (λi wr=>∃(n:Nat) (x:Gid),n<=L.length+1∧i= .int .i64 n∧Hid (wr.heap[xb]? =some (.cells (idL x).toArray 108 (0,0)))∧Hid (ans=hY L (L.length+1-n) x)∧Hid (Below w00.heap.size w00 wr)) (λi _=>L.length+1-(RowKit.intOf i).toNat)
 case atStart=>exact⟨0,⟨⟨xt,xr⟩,xi⟩,aq _,rfl,HX0,hid (by rw[HANS.out];rfl),HB0⟩
 case round=>
  obtain⟨n,x,hn,rfl,HX,HA,HBr⟩:=hrel;by_cases hlt:n<=L.length
  ·have i1:(n:Int)<=(L.length:Int):=by omega
   obtain⟨f,hf⟩:∃f,L.length+1-n=f+1:=⟨L.length-n,by omega⟩;have HF:=hid (show L.length+1-(n+1)=f by omega);rw[hf] at HA;obtain⟨⟨t,r⟩,q⟩:=x;have HX:Hid (wr.heap[xb]? =some (.cells #[t,r,q] 108 (0,0))):=HX;have HFD:=hid (show Calls Tryz.prog 169 #[.slice A L.length c,.agg #[t,r,q]] wr λe w'=>e= .returned (.int .i64 (ixI (dZ L ⟨⟨t,r⟩,q⟩)))∧Below wr.heap.size wr w' from gX L A c ⟨⟨t,r⟩,q⟩ S wr (by omega) (HR.out.below HBr.out));cases hfd:dZ L ⟨⟨t,r⟩,q⟩ with
   | none=>
    have HA2:=hid (show ans=false by rw[HA.out,hY,hfd]);rw[hfd] at HFD;clear hf hfd
    go_wp2_with (first
     |(refine lA HX aw ?_)
     |(go_at_call 169;refine HFD.out.mono ?_;rintro e w2 ⟨rfl,hB2⟩;have HX2:=bK hB2 HX;have HB2:=bT HBr hB2;clear hB2;dsimp only[ixI]))
    go_ret;exact⟨by rw[HA2.out];rfl,HB2.out⟩
   | some k=>
    obtain⟨hk,-⟩:=fL hfd
    have ha2:ans=(if (L.getD k plc0).p.eqb .zero=true then true else match dZ L (L.getD k plc0).p with
     |none=>false
     |some k2=>if (L.getD k2 plc0).dir=true then hY L f (L.getD k plc0).p else false):=by rw[HA.out,hY,hfd]
    rw[hfd] at HFD;obtain⟨rb,ro,hAe,-,hrb,hrange⟩:=HR.out.range (λ_=>rfl) hk;have i3:(0:Int)<=(k:Int):=by omega
    have i4:(k:Int)<(L.length:Int):=by omega
    have i5:¬(k:Int)<0:=by omega
    have hpp:∃p,p=L.getD k plc0:=⟨_,rfl⟩;obtain⟨p,hp⟩:=hpp;rw[<-hp] at ha2 hrange;obtain⟨⟨⟨nt,nr⟩,ni⟩,⟨⟨pt,pr⟩,pi⟩,nm,dd⟩:=p;have HRW:=hid (λW (hB:Below w00.heap.size w00 W)=>show W.rangeAt rb (ro+k*8+3) [pt,pr,pi] from bv (pre:=[nt,nr,ni]) (post:=[nm,dd]) (cd hrange hrb hB));have HPC:=hid (show(#[pt,pr,pi]:Array Value).toList.all (·.oneCell')=true from rfl);have HF2:=hid (λW (hB:Below w00.heap.size w00 W)=>show Calls Tryz.prog 169 #[.slice A L.length c,.agg #[pt,pr,pi]] W λe w'=>e= .returned (.int .i64 (ixI (dZ L ⟨⟨pt,pr⟩,pi⟩)))∧Below W.heap.size W w' from gX L A c ⟨⟨pt,pr⟩,pi⟩ S W (by omega) (HR.out.below hB));obtain⟨b0,hb0⟩:∃b,b=Gid.eqb ⟨⟨pt,pr⟩,pi⟩ .zero:=⟨_,rfl⟩;have q0:=eJ pt pr pi 0 0 0 b0 hb0.symm
    have HA3:=hid (show ans=(if b0=true then true else match dZ L ⟨⟨pt,pr⟩,pi⟩ with
     |none=>false
     |some k2=>if (L.getD k2 plc0).dir=true then hY L f ⟨⟨pt,pr⟩,pi⟩ else false) by rw[hb0];exact ha2)
    have HAE:=hid hAe;subst hAe;clear hf hfd hrange hrb hp ha2 hb0 HA
    go_upto_region 7 with(first
     |(refine lA HX aw ?_)
     |(go_at_call 169;refine HFD.out.mono ?_;rintro e w2 ⟨rfl,hB2⟩;have HX2:=bK hB2 HX;have HB2:=bT HBr hB2;clear hB2;dsimp only[ixI]))
    have HRX:=hid (HRW.out w2 HB2.out);obtain⟨V,hV⟩:∃V,V=w2.setRow xb #[pt,pr,pi]:=⟨_,rfl⟩;have HV:=hid hV;have HX3:=hid (show V.heap[xb]? =some (.cells #[pt,pr,pi] 108 (0,0)) by rw[hV];exact aM _ HX2.out);have HB3:=hid (show Below w00.heap.size w00 V by rw[hV];exact Below.setRow' HB2.out (by rw[HXB.out];exact aa _) _);clear hV;cases b0 with
    | true=>
     have HA4:=hid (show ans=true by rw[HA3.out];rfl)
     go_upto_region 8 with(first
      |(refine lM HRX aw ?_)
      |(refine da rfl _ _ _ rfl xb 108 #[t,r,q] #[pt,pr,pi] rfl rfl HX2.out (by kernel_rfl) rfl HPC.out ?_;rw[<-HV.out]))
     go_wp2_with (refine lA HX3 aw ?_);go_ret;exact⟨by rw[HA4.out];rfl,HB3.out⟩
    | false=>
     cases hf2:dZ L ⟨⟨pt,pr⟩,pi⟩ with
     | none=>
      have HA4:=hid (show ans=false by rw[HA3.out,hf2];rfl);rw[hf2] at HF2;clear hf2
      go_upto_region 8 with(first
      |(refine lM HRX aw ?_)
      |(refine da rfl _ _ _ rfl xb 108 #[t,r,q] #[pt,pr,pi] rfl rfl HX2.out (by kernel_rfl) rfl HPC.out ?_;rw[<-HV.out]))
      go_wp2_with (first
       |(refine lA HX3 aw ?_)
       |(go_at_call 169;refine(HF2.out V HB3.out).mono ?_;rintro e w4 ⟨rfl,hB4⟩;have HX4:=bK hB4 HX3;have HB4:=bT HB3 hB4;clear hB4;dsimp only[ixI]))
      go_ret;exact⟨by rw[HA4.out];rfl,HB4.out⟩
     | some k2=>
      obtain⟨hk2,-⟩:=fL hf2;obtain⟨rb9,ro9,hA9,-,hrb9,hrange9⟩:=HR.out.range (λ_=>rfl) hk2;cases hA9;have l3:(0:Int)<=(k2:Int):=by omega
      have l4:(k2:Int)<(L.length:Int):=by omega
      have l5:¬(k2:Int)<0:=by omega
      obtain⟨d2,hd2⟩:∃d,d=(L.getD k2 plc0).dir:=⟨_,rfl⟩;have HD2:=hid (λW (hB:Below w00.heap.size w00 W)=>show W.cell? ⟨rb,ro+k2*8+7,none⟩=some (.bool d2) from by rw[hd2];exact(cd hrange9 hrb9 hB) 7 _ rfl);have HA4:=hid (show ans=(if d2=true then hY L f ⟨⟨pt,pr⟩,pi⟩ else false) by rw[HA3.out,hf2,hd2];rfl);rw[hf2] at HF2;clear hf2 hd2 hrange9 hrb9;cases d2 with
      |false=>
       have HA5:=hid (show ans=false by rw[HA4.out];rfl)
       go_upto_region 8 with(first
      |(refine lM HRX aw ?_)
      | (refine da rfl _ _ _ rfl xb 108 #[t,r,q] #[pt,pr,pi] rfl rfl HX2.out (by kernel_rfl) rfl HPC.out ?_;rw[<-HV.out]))
       go_wp2_with (first
        |(refine lA HX3 aw ?_)
        |(go_at_call 169;refine(HF2.out V HB3.out).mono ?_;rintro e w4 ⟨rfl,hB4⟩;have HX4:=bK hB4 HX3;have HB4:=bT HB3 hB4;clear hB4;dsimp only[ixI];have c7:=HD2.out w4 HB4.out))
       go_ret;exact⟨by rw[HA5.out];rfl,HB4.out⟩
      |true=>
       have HA5:=hid (show ans=hY L f ⟨⟨pt,pr⟩,pi⟩ by rw[HA4.out];rfl)
       go_upto_region 8 with(first
      |(refine lM HRX aw ?_)
      | (refine da rfl _ _ _ rfl xb 108 #[t,r,q] #[pt,pr,pi] rfl rfl HX2.out (by kernel_rfl) rfl HPC.out ?_;rw[<-HV.out]))
       go_wp2_with (first
        |(refine lA HX3 aw ?_)
        |(go_at_call 169;refine(HF2.out V HB3.out).mono ?_;rintro e w4 ⟨rfl,hB4⟩;have HX4:=bK hB4 HX3;have HB4:=bT HB3 hB4;clear hB4;dsimp only[ixI];have c7:=HD2.out w4 HB4.out))
       go_roundw
       case rel=>exact⟨n+1,⟨⟨pt,pr⟩,pi⟩,by omega,by go_num,HX4,hid (by rw[HF.out];exact HA5.out),HB4⟩
       case measure=>(simp[RowKit.intOf];omega)
  ·obtain rfl:n=L.length+1:=by omega
   have i1:¬((L.length:Int)+1)<=(L.length:Int):=by omega
   have i2:¬(((L.length+1:Nat):Int))<=(L.length:Int):=by omega
   have HA2:=hid (show ans=false by rw[HA.out,Nat.sub_self];rfl);go_wp2;go_ret;exact⟨by rw[HA2.out];rfl,HBr.out⟩
def gE (N:List Plc) (V:List Gid) (p:Plc):Bool:=N.any λq=>V.any (λy=>y.eqb q.n) && jO N q.n && jq N q.n p.n
def iX (L:List Plc) (V:List Gid):List Plc:=(fG L).filter (gE (fG L) V)
theorem seen15_any (L:List Plc) (A:Option Addr) (c:Nat) (V:List Gid) (vA:Option Addr) (vc:Nat) (S S2:Nat->Prop) (w00:World) (hl:L.length<=100000) (hv:V.length<=100000) (hnm:∀p∈L,p.name.size<=1000000) (hR:RowF w00 S A 8 plcL plc0 L) (hV:RowF w00 S2 vA 3 idL Gid.zero V):
  Calls Tryz.prog 171 #[.slice A L.length c,.slice vA V.length vc] w00 λe w'=>∃A' c',e= .returned (.slice A' (iX L V).length c')∧w'.ownsRow w00.heap.size 161 8 (.slice A' (iX L V).length c') (iX L V).length ((iX L V).flatMap plcL)∧Below w00.heap.size w00 w':=by
 obtain⟨i0,hi,hz0,hz1,hz2⟩:=bD info_plc;have HRI:=hid (right15_any L A c S w00 hl hnm hR);have HV0:=hid hV;have hnl:=rightP_len L;obtain⟨N,hN⟩:∃N,N=fG L:=⟨_,rfl⟩;obtain⟨R,hRd⟩:∃R,R=iX L V:=⟨_,rfl⟩;have HRR:=hid (show R=N.filter (gE N V) by rw[hRd,hN];rfl);rw[<-hRd];rw[<-hN] at HRI hnl;clear hR hV hN hRd;go_enter Tryz.func171,Tryz.ntmps171;go_upto_region 4 with(go_at_call 195;refine HRI.out.mono ?_;rintro e w ⟨A1,c1,rfl,hown1,hB1⟩;have HN:=hid (ct (f:=plcL) (z:=plc0) (λ_=>rfl) rfl hown1);have HB1:=hid hB1;have HV:=hid (HV0.out.below hB1);clear hown1 hB1);go_loopw [5,6] (λo i wr=>∃(k:Nat) (A':Option Addr) (c' m:Nat) (M:List Plc),k<=N.length∧i= .int .i64 k∧o= .slice A' m c'∧m<=k∧Hid (m=M.length)∧Hid (M=(N.take k).filter (gE N V))∧Hid (wr.ownsRow w.heap.size 161 8 (.slice A' m c') m (M.flatMap plcL))∧Hid (Below w.heap.size w wr)) (λo i _=>N.length-(RowKit.intOf i).toNat)
 case atStart=>exact⟨0,none,0,0,[],aq _,rfl,rfl,aa _,hid rfl,hid rfl,hid (aF w w.heap.size 161 8),hid (ag _ _)⟩
 case round=>
  obtain⟨k,A',c',m,M,hk,rfl,rfl,hmk,HML,HM,HO,HBr⟩:=hrel;by_cases hlt:k<N.length
  ·have i1:(0:Int)<=(k:Int):=by omega
   have i2:(k:Int)<(N.length:Int):=by omega
   obtain⟨rb,ro,hAe,-,hrb,hrange⟩:=HN.out.range (λ_=>rfl) hlt;have hst:((N.take (k+1)).filter (gE N V))=M++(if gE N V (N.getD k plc0)=true then [N.getD k plc0] else []):=by
    rw[dF hlt plc0,jD,HM.out];congr 1;generalize N.getD k plc0=p0;cases e:gE N V p0<;>simp[List.filter,e]
   obtain⟨p,hp⟩:∃p,p=N.getD k plc0:=⟨_,rfl⟩;rw[<-hp] at hst hrange;obtain⟨⟨⟨nt,nr⟩,ni⟩,⟨⟨pt,pr⟩,pi⟩,nm,dd⟩:=p;have HRW:=hid (λW (hB:Below w.heap.size w W)=>show W.rangeAt rb (ro+k*8) [.int .i64 nt,.int .i64 nr,.int .i64 ni,.int .i64 pt,.int .i64 pr,.int .i64 pi,.string nm,.bool dd] from cd hrange hrb hB);have HST:=hid hst;have hsz:=HBr.out.size;cases hAe;clear hrange hrb hst hp;generalize wr=w0 at *;go_upto_region 8 with fail;go_loopw [7,8] (λh i wr=>∃(j:Nat) (b:Bool),j<=N.length∧i= .int .i64 j∧h= .bool b∧Hid (b=(N.take j).any (λq:Plc=>V.any (λy=>y.eqb q.n) && jO N q.n && jq N q.n ⟨⟨nt,nr⟩,ni⟩))∧Hid (Below w0.heap.size w0 wr)) (λh i _=>N.length-(RowKit.intOf i).toNat)
   case atStart=>exact⟨0,false,aq _,rfl,rfl,hid rfl,hid (ag _ _)⟩
   case round=>
    obtain⟨j,b,hj,rfl,rfl,HB,HBj⟩:=hrel;have HBw:=hid (HBr.out.trans (HBj.out.mono hsz));have hszw:=HBw.out.size;by_cases hjm:j<N.length
    ·have j1:(0:Int)<=(j:Int):=by omega
     have j2:(j:Int)<(N.length:Int):=by omega
     obtain⟨rb9,ro9,hA9,-,hrb9,hrange9⟩:=HN.out.range (λ_=>rfl) hjm;have htk:(N.take (j+1)).any (λq:Plc=>V.any (λy=>y.eqb q.n) && jO N q.n && jq N q.n ⟨⟨nt,nr⟩,ni⟩)=((N.take j).any (λq:Plc=>V.any (λy=>y.eqb q.n) && jO N q.n && jq N q.n ⟨⟨nt,nr⟩,ni⟩) || (λq:Plc=>V.any (λy=>y.eqb q.n) && jO N q.n && jq N q.n ⟨⟨nt,nr⟩,ni⟩) (N.getD j plc0)):=by rw[dF hjm plc0,jp];simp
     obtain⟨y,hy⟩:∃y,y=N.getD j plc0:=⟨_,rfl⟩;rw[<-hy] at htk hrange9;obtain⟨⟨⟨t2,r2⟩,n2⟩,⟨⟨u2,v2⟩,i2⟩,m2,d2⟩:=y;have hr2:w.rangeAt rb9 (ro9+j*8) [.int .i64 t2,.int .i64 r2,.int .i64 n2,.int .i64 u2,.int .i64 v2,.int .i64 i2,.string m2,.bool d2]:=hrange9;obtain⟨b1,hb1⟩:∃b,b=V.any (λy=>y.eqb ⟨⟨t2,r2⟩,n2⟩):=⟨_,rfl⟩;obtain⟨b2,hb2⟩:∃b,b=jO N ⟨⟨t2,r2⟩,n2⟩:=⟨_,rfl⟩;obtain⟨b3,hb3⟩:∃b,b=jq N ⟨⟨t2,r2⟩,n2⟩ ⟨⟨nt,nr⟩,ni⟩:=⟨_,rfl⟩;have HTK:=hid (show(N.take (j+1)).any (λq:Plc=>V.any (λy=>y.eqb q.n) && jO N q.n && jq N q.n ⟨⟨nt,nr⟩,ni⟩)=(b || (b1 && b2 && b3)) by rw[htk,HB.out,hb1,hb2,hb3]);have hrw2:=cd hr2 hrb9 HBw.out;cases hA9;have HRG:=hid (HRW.out wr HBw.out);have y0:=aj (w:=wr) (a:=⟨rb,ro+j*8,none⟩) (v:= .int .i64 t2) (hrw2 0 _ rfl);have y1:=aj (w:=wr) (a:=⟨rb,ro+j*8+1,none⟩) (v:= .int .i64 r2) (hrw2 1 _ rfl);have y2:=aj (w:=wr) (a:=⟨rb,ro+j*8+2,none⟩) (v:= .int .i64 n2) (hrw2 2 _ rfl);have x0:=aj (w:=wr) (a:=⟨rb,ro+k*8,none⟩) (v:= .int .i64 nt) (HRG.out 0 _ rfl);have x1:=aj (w:=wr) (a:=⟨rb,ro+k*8+1,none⟩) (v:= .int .i64 nr) (HRG.out 1 _ rfl);have x2:=aj (w:=wr) (a:=⟨rb,ro+k*8+2,none⟩) (v:= .int .i64 ni) (HRG.out 2 _ rfl);have HHI:=hid (λW (hB:Below w.heap.size w W)=>show Calls Tryz.prog 173 #[.slice vA V.length vc,.agg #[t2,r2,n2]] W λe w'=>e= .returned (.bool b1)∧Below W.heap.size W w' from by rw[hb1];exact hasid_any V vA vc ⟨⟨t2,r2⟩,n2⟩ S2 W (by omega) (HV.out.below hB))
     have HRO:=hid (λW (hB:Below w.heap.size w W)=>show Calls Tryz.prog 196 #[.slice (some ⟨rb,ro,none⟩) N.length c1,.agg #[t2,r2,n2]] W λe w'=>e= .returned (.bool b2)∧Below W.heap.size W w' from by rw[hb2];exact rooted_any N _ c1 t2 r2 n2 _ W (by omega) (HN.out.below hB));have HWI:=hid (λW (hB:Below w.heap.size w W)=>show Calls Tryz.prog 168 #[.slice (some ⟨rb,ro,none⟩) N.length c1,.agg #[t2,r2,n2],.agg #[nt,nr,ni]] W λe w'=>e= .returned (.bool b3)∧Below W.heap.size W w' from by rw[hb3];exact within_any N _ c1 t2 r2 n2 nt nr ni _ W (by omega) (HN.out.below hB));have cA:=λd os=>ay (HHI.out (grow (redrawn wr d) os) (HBw.out.trans ((bE wr d os).mono hszw)));have cB:=λd os=>ay (HRO.out (grow (redrawn wr d) os) (HBw.out.trans ((bE wr d os).mono hszw)));have cC:=λd os=>ay (HWI.out (grow (redrawn wr d) os) (HBw.out.trans ((bE wr d os).mono hszw)));clear hr2 hrw2 hb1 hb2 hb3 hy htk hrange9 hrb9;cases b1 with
     |false=>
      go_upto_region 10 with fail;refine rqb ?_
      repeat(any_goals(first|go_big_quiet_step (with_reducible first|exact cA _ _|exact cB _ _|exact cC _ _)|quiet_step (with_reducible first|exact cA _ _|exact cB _ _|exact cC _ _)))
      refine qz λwq hBq=> ?_;have HBq:=bT HBj hBq;go_wp2;go_roundw
      case rel=>exact⟨j+1,b,by omega,by go_num,rfl,hid (by rw[HTK.out];simp),HBq⟩
      case measure=>(simp[RowKit.intOf];omega)
     | true=>
      cases b2 with
      |false=>
       go_upto_region 10 with fail;refine rqb ?_
       repeat(any_goals(first|go_big_quiet_step (with_reducible first|exact cA _ _|exact cB _ _|exact cC _ _)|quiet_step (with_reducible first|exact cA _ _|exact cB _ _|exact cC _ _)))
       refine qz λwq hBq=> ?_;have HBq:=bT HBj hBq;go_wp2;go_roundw
       case rel=>exact⟨j+1,b,by omega,by go_num,rfl,hid (by rw[HTK.out];simp),HBq⟩
       case measure=>(simp[RowKit.intOf];omega)
      | true=>
       cases b3 with
       |false=>
        go_upto_region 10 with fail;refine rqb ?_
        repeat(any_goals(first|go_big_quiet_step (with_reducible first|exact cA _ _|exact cB _ _|exact cC _ _)|quiet_step (with_reducible first|exact cA _ _|exact cB _ _|exact cC _ _)))
        refine qz λwq hBq=> ?_;have HBq:=bT HBj hBq;go_wp2;go_roundw
        case rel=>exact⟨j+1,b,by omega,by go_num,rfl,hid (by rw[HTK.out];simp),HBq⟩
        case measure=>(simp[RowKit.intOf];omega)
       |true=>
        go_upto_region 10 with fail;refine rqb ?_
        repeat(any_goals(first|go_big_quiet_step (with_reducible first|exact cA _ _|exact cB _ _|exact cC _ _)|quiet_step (with_reducible first|exact cA _ _|exact cB _ _|exact cC _ _)))
        refine qz λwq hBq=> ?_;have HBq:=bT HBj hBq;go_wp2;go_roundw
        case rel=>exact⟨j+1,true,by omega,by go_num,rfl,hid (by rw[HTK.out];simp),HBq⟩
        case measure=>(simp[RowKit.intOf];omega)
    ·obtain rfl:j=N.length:=by omega
     have j2:¬(N.length:Int)<(N.length:Int):=by omega
     have HANY:=hid (show gE N V ⟨⟨⟨nt,nr⟩,ni⟩,⟨⟨pt,pr⟩,pi⟩,nm,dd⟩=b by unfold gE;have h9:=HB.out;rw[aK] at h9;exact h9.symm);have HOj:=kO HO HBj.out;cases b with
     |false=>
      have HS9:=hid (show((N.take (k+1)).filter (gE N V))=M by rw[HST.out,HANY.out];simp);go_wp2;go_roundw
      case rel=>exact⟨k+1,A',c',m,M,by omega,by go_num,rfl,by omega,HML,hid HS9.out.symm,HOj,HBw⟩
      case measure=>(simp[RowKit.intOf];omega)
     | true=>
      have HS9:=hid (show((N.take (k+1)).filter (gE N V))=M++[⟨⟨⟨nt,nr⟩,ni⟩,⟨⟨pt,pr⟩,pi⟩,nm,dd⟩] by rw[HST.out,HANY.out];rfl);have HRX:=hid (HRW.out wr HBw.out)
      go_wp2_with (first
       |(refine lM HRX ca ?_)
       |(at_builtin;refine bX _ rfl _ _ 101 rfl w.heap.size 161 i0 (.agg #[(0:Int),(0:Int),(0:Int),(0:Int),(0:Int),(0:Int),.string ⟨#[]⟩,false]) 8 72 Tryz.underlying101 hi hz0 hz1 hz2 rfl (by decide) (.slice A' m c') m _ rfl (by exact HOj.out.alloc _) ⟨wr.heap.size,0,none⟩ 1 1 [.int .i64 nt,.int .i64 nr,.int .i64 ni,.int .i64 pt,.int .i64 pr,.int .i64 pi,.string nm,.bool dd] rfl rfl (λj y h=>dH wr [.int .i64 nt,.int .i64 nr,.int .i64 ni,.int .i64 pt,.int .i64 pr,.int .i64 pi,.string nm,.bool dd] 161 j y h) (fw (c:=#[.int .i64 nt,.int .i64 nr,.int .i64 ni,.int .i64 pt,.int .i64 pr,.int .i64 pi,.string nm,.bool dd]) rfl) (by decide) (by unfold maxLen;omega) (by omega) (by simp;omega) (wr.heap.size+1) (by simp) ?_;intro gq cap w5 hown hgrow ha hlt5;have HO5:=hid hown;have HB5:=hid ((HBw.out.alloc hszw _).grown hgrow (by simp;omega) (λb hb=>(HOj.out.lt b hb).1));clear hown hgrow ha hlt5))
      go_roundw
      case rel=>exact⟨k+1,some ⟨gq,0,none⟩,cap,m+1,M++[⟨⟨⟨nt,nr⟩,ni⟩,⟨⟨pt,pr⟩,pi⟩,nm,dd⟩],by omega,by go_num,rfl,by omega,hid (by rw[al,<-HML.out];rfl),hid HS9.out.symm,hid (by rw[aI];exact HO5.out),HB5⟩
      case measure=>(simp[RowKit.intOf];omega)
  ·obtain rfl:k=N.length:=by omega
   have i2:¬(N.length:Int)<(N.length:Int):=by omega
   have HM9:=hid (show M=R by rw[HRR.out];have h9:=HM.out;rw[aK] at h9;exact h9);go_wp2;go_ret;refine⟨A',c',by rw[<-HM9.out,<-HML.out];rfl,?_,HB1.out.trans (HBr.out.mono HB1.out.size)⟩;rw[<-HM9.out,<-HML.out];exact iC HO.out HB1.out.size
end
section
section
open Go.RowKit
theorem cells_new (W:World) (xs:List Value) (e:TypeId) (j:Nat) (u:Value) (h:xs[j]? =some u):(W.alloc (.cells xs.toArray e)).cell? ((⟨W.heap.size,0,none⟩:Addr).add j)=some u:=by
 rw[jm];have:=World.cell?_alloc_mark W xs.toArray e (0,0) j;rw[this];simpa using h
theorem info_u8:(Tryz.prog.info? 5).map (λi=>(i.zero,i.size,i.bytes))=some (some (.int .u8 0),1,1):=by kernel_rfl
theorem one_cell (W:World) (u:Value) (e:TypeId) (j:Nat) (v:Value) (h:[u][j]? =some v):(W.alloc (.cells #[u] e)).cell? ((⟨W.heap.size,0,none⟩:Addr).add j)=some v:=cells_new W [u] e j v h
end
end
section
open Go.RowKit Go.Lib Go.Sort
attribute [local go_sem ↓] Go.wp_at_zero Go.wp_at_succ
def digs (n:Nat):List UInt8:=if n<10 then [UInt8.ofNat (48+n)] else digs (n / 10)++[UInt8.ofNat (48+n % 10)]
termination_by n
decreasing_by omega
theorem digs_low {n:Nat} (h:n<10):digs n=[UInt8.ofNat (48+n)]:=by rw[digs,aJ h]
theorem digs_high {n:Nat} (h:¬n<10):digs n=digs (n / 10)++[UInt8.ofNat (48+n % 10)]:=by rw[digs,aC h]
theorem b8_of (n:Nat) (h:n<10):b8 (UInt8.ofNat (48+n))= .int .u8 (48+(n:Int)):=by
 unfold b8;rw[UInt8.toNat_ofNat_of_lt' (show 48+n<256 by omega)];rfl
theorem pow_step {n v d:Nat} (h:v*10 ^ d<=n):v / 10*10 ^ (d+1)<=n:=by
 have h2:v / 10*10<=v:=Nat.div_mul_le_self v 10;have h3:v / 10*10*10 ^ d<=v*10 ^ d:=fd _ h2;rw[Nat.pow_succ,Nat.mul_comm (10 ^ d) 10,<-Nat.mul_assoc];omega
theorem pow_lt {n v d:Nat} (h:v*10 ^ d<=n) (hn:n<1000000000000000000) (hv:0<v):d<18:=by
 rcases cj d 18 with h1|h1
 ·exact h1
 ·have h2:10 ^ 18<=10 ^ d:=Nat.pow_le_pow_right (by decide) h1;have h3:1*10 ^ d<=v*10 ^ d:=fd _ hv;have h4:(10:Nat) ^ 18=1000000000000000000:=by decide
  omega
theorem digits_any (n:Nat) (w:World) (hn:n<1000000000000000000):
  Calls Tryz.prog 225 #[.int .i64 n] w λe w'=>∃T:ByteArray,e= .returned (.string T)∧T.data.toList=digs n∧T.size<=20∧Below w.heap.size w w':=by
 obtain⟨i0,hi,hz0,hz1,hz2⟩:=bD info_u8;have n0:¬(n:Int)<0:=by omega
 go_enter Tryz.func225,Tryz.ntmps225;go_upto_region 4 with fail;go_loopw [0,3] (λa s wr=>∃(v:Nat) (T:ByteArray),a= .int .i64 v∧s= .string T∧v<=n∧T.size<=18∧Hid (v*10 ^ T.size<=n)∧Hid (digs n=digs v++T.data.toList)∧Hid (Below w.heap.size w wr)) (λa s _=>(RowKit.intOf a).toNat)
 case atStart=>exact⟨n,⟨#[]⟩,rfl,rfl,aa _,aq _,hid (by show n*10 ^ 0<=n;omega),hid (by simp),hid (ag _ _)⟩
 case round=>
  obtain⟨v,T,rfl,rfl,hv,hT,HP,HD,HB⟩:=hrel;have hszr:=HB.out.size;by_cases h9:v<10
  ·have n1:¬(v:Int)>9:=by omega
   have n2:¬(9:Int)<(v:Int):=by omega
   obtain⟨y,hy⟩:∃y,y=UInt8.ofNat (48+v):=⟨_,rfl⟩;have HX:=hid (show Value.int .u8 (48+(v:Int))=b8 y by rw[hy,b8_of v h9]);have HDL:=hid (show digs v=[y] by rw[hy];exact digs_low h9);clear hy;go_upto_region 11 with(at_builtin;refine bu _ rfl _ _ 23 rfl w.heap.size 5 i0 (.int .u8 0) 1 1 dD hi hz0 hz1 hz2 rfl (by decide) (.slice none 0 0) 0 [] rfl (aF _ _ _ _) ⟨wr.heap.size,0,none⟩ 1 1 [.int .u8 (48+(v:Int))] rfl rfl (one_cell _ _ _) (λu hu=>by simp at hu;subst hu;rfl) (by unfold maxLen;omega) (by omega) (by simp;omega) ?_;intro v' w2 hown' hgrow _;have HO2:=hid hown';have HB2:=hid ((HB.out.alloc HB.out.size _).grown hgrow (by simp;omega) (λb hb=>by cases hb));clear hown' hgrow);have hcv:=conv_own (P:=Tryz.prog) w2 23 9 5 w.heap.size v' 1 [y] dD dS gn (by have h:=HO2.out;rw[HX.out] at h;exact h);have HL:Hid (((⟨#[y]⟩:ByteArray)++T).size<=maxLen):=hid (by simp only[aZ];rw[show(⟨#[y]⟩:ByteArray).size=1 from rfl];unfold maxLen;omega);go_wp2;go_ret;refine⟨_,rfl,?_,?_,HB2.out⟩
   ·rw[HD.out,HDL.out];simp
   ·simp only[aZ];rw[show(⟨#[y]⟩:ByteArray).size=1 from rfl];omega
  ·have n1:(v:Int)>9:=by omega
   have n2:(9:Int)<(v:Int):=by omega
   have HT2:=hid (pow_lt HP.out hn (by omega));have hx1:IntKind.i64.wrap (48+(v:Int) % 10)=48+(v:Int) % 10:=by rw[bz];omega
   have hx2:IntKind.u8.wrap (48+(v:Int) % 10)=48+(v:Int) % 10:=by rw[IntKind.wrap_u8];omega
   obtain⟨y,hy⟩:∃y,y=UInt8.ofNat (48+v % 10):=⟨_,rfl⟩;have HX:=hid (show Value.int .u8 (48+(v:Int) % 10)=b8 y by rw[hy,b8_of (v % 10) (by omega)];rfl);have HDL:=hid (show digs v=digs (v / 10)++[y] by rw[hy];exact digs_high h9);clear hy;go_upto_region 7 with(at_builtin;refine bu _ rfl _ _ 23 rfl w.heap.size 5 i0 (.int .u8 0) 1 1 dD hi hz0 hz1 hz2 rfl (by decide) (.slice none 0 0) 0 [] rfl (aF _ _ _ _) ⟨wr.heap.size,0,none⟩ 1 1 [.int .u8 (48+(v:Int) % 10)] rfl rfl (one_cell _ _ _) (λu hu=>by simp at hu;subst hu;rfl) (by unfold maxLen;omega) (by omega) (by simp;omega) ?_;intro v' w2 hown' hgrow _;have HO2:=hid hown';have HB2:=hid ((HB.out.alloc HB.out.size _).grown hgrow (by simp;omega) (λb hb=>by cases hb));clear hown' hgrow);have hcv:=conv_own (P:=Tryz.prog) w2 23 9 5 w.heap.size v' 1 [y] dD dS gn (by have h:=HO2.out;rw[HX.out] at h;exact h);have HL:Hid (((⟨#[y]⟩:ByteArray)++T).size<=maxLen):=hid (by simp only[aZ];rw[show(⟨#[y]⟩:ByteArray).size=1 from rfl];unfold maxLen;omega);have HS1:=hid (show((⟨#[y]⟩:ByteArray)++T).size=T.size+1 by simp only[aZ];rw[show(⟨#[y]⟩:ByteArray).size=1 from rfl];omega);go_wp2;go_roundw
   case rel=>exact⟨v / 10,_,by go_num,rfl,by omega,by rw[HS1.out];have:=HT2.out;omega,hid (by rw[HS1.out];exact pow_step HP.out),hid (by rw[HD.out,HDL.out];simp),HB2⟩
   case measure=>(simp[RowKit.intOf];omega)
end
section
open Go.RowKit Go.Lib Go.Sort
attribute [local go_sem ↓] Go.wp_at_zero Go.wp_at_succ
def digB (n:Nat):ByteArray:=⟨(digs n).toArray⟩
theorem digits_is (n:Nat) (w:World) (hn:n<1000000000000000000):Calls Tryz.prog 225 #[.int .i64 n] w λe w'=>e= .returned (.string (digB n))∧Below w.heap.size w w':=by
 refine(digits_any n w hn).mono ?_;rintro e w' ⟨T,rfl,hT,-,hB⟩;refine⟨?_,hB⟩;unfold digB;rw[<-hT,Array.toArray_toList]
theorem jh (n:Nat):n<1000000000000000000->(digB n).size<=18:=λh=>by
 show((digs n).toArray).size<=18
 rw[List.size_toArray]
 have hlow:∀m,m<10->(digs m).length=1:=λm hm=>by rw[digs_low hm];rfl
 have hs:∀(d:Nat),∀m,m<10 ^ (d+1)->(digs m).length<=d+1:=by
  intro d;induction d with
  |zero=>intro m hm;rw[hlow m (by simpa using hm)];exact aa _
  | succ d ih=>
   intro m hm;by_cases h9:m<10
   ·rw[hlow m h9];omega
   ·rw[digs_high h9,al];have:=ih (m / 10) (by rw[Nat.div_lt_iff_lt_mul (by decide)];rw[Nat.pow_succ] at hm;exact hm);simp only[dy];omega
 exact hs 17 n h
def txtB (x:Gid):ByteArray:=if x.right=true then digB x.s.t.toNat++⟨#[46]⟩++digB x.s.r.toNat++⟨#[46]⟩++digB x.i.toNat else ⟨#[]⟩
theorem text5_any (t r i:Int) (w00:World):
  Calls Tryz.prog 221 #[.agg #[.int .i64 t,.int .i64 r,.int .i64 i]] w00 fun e w'=>e= .returned (.string (txtB ⟨⟨t,r⟩,i⟩))∧Below w00.heap.size w00 w':=by
 obtain⟨v,hv⟩:∃v,v=Gid.right ⟨⟨t,r⟩,i⟩:=⟨_,rfl⟩
 obtain⟨T,hT⟩:∃T,T=txtB ⟨⟨t,r⟩,i⟩:=⟨_,rfl⟩
 rw[←hT]
 cases v with
 | false=>
  have HT:=hid (show T=⟨#[]⟩ by rw[hT];unfold txtB;rw[aC (by rw[←hv];decide)])
  have hb0:Below w00.heap.size w00 (w00.alloc (.cells #[.int .i64 t,.int .i64 r,.int .i64 i] 108)):=(ag _ _).alloc (aa _) _
  have HB0:=hid hb0
  have HX:=hid (am w00 (.cells #[.int .i64 t,.int .i64 r,.int .i64 i] 108))
  have HRI:=hid (show Calls Tryz.prog 192 #[.agg #[.int .i64 t,.int .i64 r,.int .i64 i]] (w00.alloc (.cells #[.int .i64 t,.int .i64 r,.int .i64 i] 108)) fun e w'=>e= .returned (.bool false)∧Below (w00.alloc (.cells #[.int .i64 t,.int .i64 r,.int .i64 i] 108)).heap.size (w00.alloc (.cells #[.int .i64 t,.int .i64 r,.int .i64 i] 108)) w' from by rw[hv];exact fY t r i _)
  clear hv hT hb0
  go_enter Tryz.func221,Tryz.ntmps221
  go_upto_region 1 with fail
  generalize hW:w00.alloc (.cells #[.int .i64 t,.int .i64 r,.int .i64 i] 108)=w at *
  clear hW
  go_wp2_with (first
   |(refine cu rfl _ _ rfl w00.heap.size _ _ _ rfl HX.out aw rfl ?_ ?_;kernel_rfl)
   |(go_at_call 192;refine HRI.out.mono ?_;rintro e w2 ⟨rfl,hB2⟩;have HB2:=hid (HB0.out.trans (hB2.mono HB0.out.size));clear hB2))
  go_ret
  exact⟨by rw[HT.out];rfl,HB2.out⟩
 | true=>
  have hv2:=hv.symm
  simp only[Gid.right,Gst.right,ap,ak] at hv2
  obtain⟨⟨⟨⟨⟨ht1,ht2⟩,hr1⟩,hr2⟩,hi1⟩,hi2⟩:=hv2
  obtain⟨tn,rfl⟩:∃n:Nat,t=(n:Int):=⟨t.toNat,by omega⟩
  obtain⟨rn,rfl⟩:∃n:Nat,r=(n:Int):=⟨r.toNat,by omega⟩
  obtain⟨jn,rfl⟩:∃n:Nat,i=(n:Int):=⟨i.toNat,by omega⟩
  obtain⟨a,ha⟩:∃a,a=digB tn:=⟨_,rfl⟩
  obtain⟨b,hb⟩:∃a,a=digB rn:=⟨_,rfl⟩
  obtain⟨c,hc⟩:∃a,a=digB jn:=⟨_,rfl⟩
  have HT:=hid (show T=a++⟨#[46]⟩++b++⟨#[46]⟩++c by rw[hT];unfold txtB;rw[aJ hv.symm,ha,hb,hc];rfl)
  have hb0:Below w00.heap.size w00 (w00.alloc (.cells #[.int .i64 (tn:Int),.int .i64 (rn:Int),.int .i64 (jn:Int)] 108)):=(ag _ _).alloc (aa _) _
  have HB0:=hid hb0
  have HX:=hid (am w00 (.cells #[.int .i64 (tn:Int),.int .i64 (rn:Int),.int .i64 (jn:Int)] 108))
  have sa:a.size≤18:=by rw[ha];exact jh tn (by omega)
  have sb:b.size≤18:=by rw[hb];exact jh rn (by omega)
  have sc:c.size≤18:=by rw[hc];exact jh jn (by omega)
  have HRI:=hid (show Calls Tryz.prog 192 #[.agg #[.int .i64 (tn:Int),.int .i64 (rn:Int),.int .i64 (jn:Int)]] (w00.alloc (.cells #[.int .i64 (tn:Int),.int .i64 (rn:Int),.int .i64 (jn:Int)] 108)) fun e w'=>e= .returned (.bool true)∧Below (w00.alloc (.cells #[.int .i64 (tn:Int),.int .i64 (rn:Int),.int .i64 (jn:Int)] 108)).heap.size (w00.alloc (.cells #[.int .i64 (tn:Int),.int .i64 (rn:Int),.int .i64 (jn:Int)] 108)) w' from by rw[hv];exact fY tn rn jn _)
  have HDA:=hid (fun W=>show Calls Tryz.prog 225 #[.int .i64 tn] W fun e w'=>e= .returned (.string a)∧Below W.heap.size W w' from by rw[ha];exact digits_is tn W (by omega))
  have HDB:=hid (fun W=>show Calls Tryz.prog 225 #[.int .i64 rn] W fun e w'=>e= .returned (.string b)∧Below W.heap.size W w' from by rw[hb];exact digits_is rn W (by omega))
  have HDC:=hid (fun W=>show Calls Tryz.prog 225 #[.int .i64 jn] W fun e w'=>e= .returned (.string c)∧Below W.heap.size W w' from by rw[hc];exact digits_is jn W (by omega))
  clear hv hT hb0 ha hb hc
  go_enter Tryz.func221,Tryz.ntmps221
  go_upto_region 1 with fail
  generalize hW:w00.alloc (.cells #[.int .i64 (tn:Int),.int .i64 (rn:Int),.int .i64 (jn:Int)] 108)=w at *
  clear hW
  go_upto_region 3 with(first
   |(refine cu rfl _ _ rfl w00.heap.size _ _ _ rfl HX.out aw rfl ?_ ?_;kernel_rfl)
   |(go_at_call 192;refine HRI.out.mono ?_;rintro e w2 ⟨rfl,hB2⟩;have HB2:=hid (HB0.out.trans (hB2.mono HB0.out.size));have HX2:=hid ((hB2.block _ (lt_of_block HX.out)).trans HX.out);clear hB2))
  have y0:=aj (w:=w2) (a:=⟨w00.heap.size,0,none⟩) (v:= .int .i64 (tn:Int)) (crw HX2.out)
  have y1:=aj (w:=w2) (a:=⟨w00.heap.size,1,none⟩) (v:= .int .i64 (rn:Int)) (crw HX2.out)
  have y2:=aj (w:=w2) (a:=⟨w00.heap.size,2,none⟩) (v:= .int .i64 (jn:Int)) (crw HX2.out)
  have cA:=fun d os=>ay (HDA.out (grow (redrawn w2 d) os))
  have cB:=fun d os=>ay (HDB.out (grow (redrawn w2 d) os))
  have cC:=fun d os=>ay (HDC.out (grow (redrawn w2 d) os))
  refine rqb ?_
  repeat(any_goals(first|go_big_quiet_step (with_reducible first|exact cA _ _|exact cB _ _|exact cC _ _)|quiet_step (with_reducible first|exact cA _ _|exact cB _ _|exact cC _ _)))
  refine qz fun wq hBq=> ?_
  go_wp2
  go_ret
  exact⟨by rw[HT.out];rfl,HB2.out.trans (hBq.mono HB2.out.size)⟩
theorem txtB_size (x:Gid):(txtB x).size<=60:=by
 unfold txtB;split
 ·rename_i h;simp only[Gid.right,Gst.right,ap,ak] at h;have h1:=jh x.s.t.toNat (by omega);have h2:=jh x.s.r.toNat (by omega);have h3:=jh x.i.toNat (by omega);simp only[aZ];rw[show(⟨#[46]⟩:ByteArray).size=1 from rfl];omega
 ·exact aq _
def clashN (s:ByteArray) (x:Gid):ByteArray:=if ek s=true then (if (txtB x).size=0 then ⟨#[]⟩ else s++⟨#[126]⟩++txtB x) else ⟨#[]⟩
theorem clash_any (s:ByteArray) (t r i:Int) (w00:World) (hs:s.size≤1000000):
  Calls Tryz.prog 213 #[.string s,.agg #[.int .i64 t,.int .i64 r,.int .i64 i]] w00 fun e w'=>∃z,e= .returned (.tuple #[.string (clashN s ⟨⟨t,r⟩,i⟩),.int .i64 z])∧Below w00.heap.size w00 w':=by
 obtain⟨v,hv⟩:∃v,v=ek s:=⟨_,rfl⟩
 obtain⟨X,hX⟩:∃T,T=txtB ⟨⟨t,r⟩,i⟩:=⟨_,rfl⟩
 obtain⟨T,hT⟩:∃T,T=clashN s ⟨⟨t,r⟩,i⟩:=⟨_,rfl⟩
 rw[←hT]
 have HT:=hid (show T=if v=true then (if X.size=0 then ⟨#[]⟩ else s++⟨#[126]⟩++X) else ⟨#[]⟩ by rw[hT,hv,hX];rfl)
 have hb0:Below w00.heap.size w00 (w00.alloc (.cells #[.int .i64 t,.int .i64 r,.int .i64 i] 108)):=(ag _ _).alloc (aa _) _
 have HB0:=hid hb0
 have HX:=hid (am w00 (.cells #[.int .i64 t,.int .i64 r,.int .i64 i] 108))
 have HNM:=hid (fun W=>show Calls Tryz.prog 159 #[.string s] W fun e w'=>e= .returned (.bool v)∧w'=W from by rw[hv];exact jI s W (by omega))
 have HTX:=hid (fun W=>show Calls Tryz.prog 221 #[.agg #[.int .i64 t,.int .i64 r,.int .i64 i]] W fun e w'=>e= .returned (.string X)∧Below W.heap.size W w' from by rw[hX];exact text5_any t r i W)
 have sX:X.size≤60:=by rw[hX];exact txtB_size _
 clear hv hX hT hb0
 go_enter Tryz.func213,Tryz.ntmps213
 go_upto_region 1 with fail
 generalize hW:w00.alloc (.cells #[.int .i64 t,.int .i64 r,.int .i64 i] 108)=w at *
 clear hW
 cases v with
 |false=>
  have HT2:=hid (show T=⟨#[]⟩ by rw[HT.out];rfl)
  go_wp2_with (go_at_call 159;refine(HNM.out w).mono ?_;rintro e w2 ⟨rfl,rfl⟩)
  go_ret2
  exact⟨_,by rw[HT2.out];rfl,HB0.out⟩
 | true=>
  by_cases h0:X.size=0
  ·have HT2:=hid (show T=⟨#[]⟩ by rw[HT.out,aJ rfl,aJ h0])
   have hq:X=⟨#[]⟩:=gm.1 (by apply bR;simpa using h0)
   subst hq
   go_wp2_with (first
    |(go_at_call 159;refine(HNM.out w).mono ?_;rintro e w2 ⟨rfl,rfl⟩)
    |(refine cu rfl _ _ rfl w00.heap.size _ _ _ rfl HX.out aw rfl ?_ ?_;kernel_rfl)
    |(go_at_call 221;refine(HTX.out _).mono ?_;rintro e w3 ⟨rfl,hB3⟩;have HB3:=hid (HB0.out.trans (hB3.mono HB0.out.size));clear hB3))
   go_ret2
   exact⟨_,by rw[HT2.out];rfl,HB3.out⟩
  ·have HT2:=hid (show T=s++⟨#[126]⟩++X by rw[HT.out,aJ rfl,aC h0])
   have hne:X.toList≠[]:=fun e=>h0 (by rw[eS] at e;rw[show X=⟨#[]⟩ from gm.1 e];rfl)
   have hq:(X.toList == [])=false:=by rw[aV];exact hne
   go_wp2_with (first
    |(go_at_call 159;refine(HNM.out w).mono ?_;rintro e w2 ⟨rfl,rfl⟩)
    |(refine cu rfl _ _ rfl w00.heap.size _ _ _ rfl HX.out aw rfl ?_ ?_;kernel_rfl)
    |(go_at_call 221;refine(HTX.out _).mono ?_;rintro e w3 ⟨rfl,hB3⟩;have HB3:=hid (HB0.out.trans (hB3.mono HB0.out.size));clear hB3))
   go_ret2
   exact⟨_,by rw[HT2.out];rfl,HB3.out⟩
def nameN (L:List Plc) (p:Plc):ByteArray:=if L.any (λq:Plc=>q.p.eqb p.p && decide (q.name=p.name) && Gid.lt q.n p.n)=true then clashN p.name p.n else p.name
theorem nameN_size (L:List Plc) (p:Plc):(nameN L p).size<=p.name.size+61:=by
 unfold nameN clashN;have h:=txtB_size p.n;split
 ·split
  ·split
   ·exact aq _
   ·simp only[aZ];rw[show(⟨#[126]⟩:ByteArray).size=1 from rfl];omega
  ·exact aq _
 ·omega
theorem name15_any (L:List Plc) (A:Option Addr) (c:Nat) (nt nr ni pt pr pi:Int) (nm:ByteArray) (dd:Bool) (S:Nat→Prop) (w00:World) (hl:L.length≤100000) (hnm:nm.size≤1000000) (hR:RowF w00 S A 8 plcL plc0 L):
  Calls Tryz.prog 197 #[.slice A L.length c,.agg #[.int .i64 nt,.int .i64 nr,.int .i64 ni,.int .i64 pt,.int .i64 pr,.int .i64 pi,.string nm,.bool dd]] w00 fun e w'=>e= .returned (.string (nameN L ⟨⟨⟨nt,nr⟩,ni⟩,⟨⟨pt,pr⟩,pi⟩,nm,dd⟩))∧Below w00.heap.size w00 w':=by
 obtain⟨T,hT⟩:∃T,T=nameN L ⟨⟨⟨nt,nr⟩,ni⟩,⟨⟨pt,pr⟩,pi⟩,nm,dd⟩:=⟨_,rfl⟩
 rw[←hT]
 obtain⟨Z,hZ⟩:∃Z,Z=clashN nm ⟨⟨nt,nr⟩,ni⟩:=⟨_,rfl⟩
 have HT:=hid (show T=if L.any (fun q:Plc=>q.p.eqb ⟨⟨pt,pr⟩,pi⟩ && decide (q.name=nm) && Gid.lt q.n ⟨⟨nt,nr⟩,ni⟩)=true then Z else nm by rw[hT,hZ];rfl)
 have hb0:Below w00.heap.size w00 (w00.alloc (.cells #[.int .i64 nt,.int .i64 nr,.int .i64 ni,.int .i64 pt,.int .i64 pr,.int .i64 pi,.string nm,.bool dd] 161)):=(ag _ _).alloc (aa _) _
 have HB0:=hid hb0
 have HX0:=hid (am w00 (.cells #[.int .i64 nt,.int .i64 nr,.int .i64 ni,.int .i64 pt,.int .i64 pr,.int .i64 pi,.string nm,.bool dd] 161))
 have HR:=hid (hR.below hb0)
 have HCL:=hid (fun W=>show Calls Tryz.prog 213 #[.string nm,.agg #[.int .i64 nt,.int .i64 nr,.int .i64 ni]] W fun e w'=>∃z,e= .returned (.tuple #[.string Z,.int .i64 z])∧Below W.heap.size W w' from by rw[hZ];exact clash_any nm nt nr ni W hnm)
 clear hR hT hZ hb0
 go_enter Tryz.func197,Tryz.ntmps197
 go_upto_region 2 with fail
 generalize hW:w00.alloc (.cells #[.int .i64 nt,.int .i64 nr,.int .i64 ni,.int .i64 pt,.int .i64 pr,.int .i64 pi,.string nm,.bool dd] 161)=w at *
 clear hW
 have hxs:=HB0.out.size
 generalize hxb:w00.heap.size=xb at *
 have HXB:=hid hxb
 clear hxb
 go_loopw [5] (fun i wr=>∃(k:Nat),k≤L.length∧i= .int .i64 k∧Hid ((L.take k).any (fun q:Plc=>q.p.eqb ⟨⟨pt,pr⟩,pi⟩ && decide (q.name=nm) && Gid.lt q.n ⟨⟨nt,nr⟩,ni⟩)=false)∧Hid (Below w.heap.size w wr)) (fun i _=>L.length-(RowKit.intOf i).toNat)
 case atStart=>exact⟨0,aq _,rfl,hid rfl,hid (ag _ _)⟩
 case round=>
  obtain⟨k,hk,rfl,HA,HBr⟩:=hrel
  have HXr:=hid ((HBr.out.block _ (lt_of_block HX0.out)).trans HX0.out)
  have hxr:=aL hxs HBr.out.size
  have HBX:=hid (HB0.out.trans (HBr.out.mono hxs))
  by_cases hlt:k<L.length
  ·have i1:(0:Int)≤(k:Int):=by omega
   have i2:(k:Int)<(L.length:Int):=by omega
   obtain⟨rb,ro,rfl,-,hrb,hrange⟩:=HR.out.range (fun _=>rfl) hlt
   have htk:(L.take (k+1)).any (fun q:Plc=>q.p.eqb ⟨⟨pt,pr⟩,pi⟩ && decide (q.name=nm) && Gid.lt q.n ⟨⟨nt,nr⟩,ni⟩)=(fun q:Plc=>q.p.eqb ⟨⟨pt,pr⟩,pi⟩ && decide (q.name=nm) && Gid.lt q.n ⟨⟨nt,nr⟩,ni⟩) (L.getD k plc0):=by rw[dF hlt plc0,jp,HA.out];simp
   have hmem:(fun q:Plc=>q.p.eqb ⟨⟨pt,pr⟩,pi⟩ && decide (q.name=nm) && Gid.lt q.n ⟨⟨nt,nr⟩,ni⟩) (L.getD k plc0)=true→L.any (fun q:Plc=>q.p.eqb ⟨⟨pt,pr⟩,pi⟩ && decide (q.name=nm) && Gid.lt q.n ⟨⟨nt,nr⟩,ni⟩)=true:=fun h=>dV.2 ⟨_,bL hlt plc0,h⟩
   generalize L.getD k plc0=p at *
   obtain⟨⟨⟨t2,r2⟩,n2⟩,⟨⟨u2,v2⟩,i2⟩,m2,d2⟩:=p
   obtain⟨c1,hc1⟩:∃b,b=Gid.eqb ⟨⟨u2,v2⟩,i2⟩ ⟨⟨pt,pr⟩,pi⟩:=⟨_,rfl⟩
   obtain⟨c2,hc2⟩:∃b,b=decide (m2=nm):=⟨_,rfl⟩
   obtain⟨b2,hb2⟩:∃b,b=Gid.lt ⟨⟨t2,r2⟩,n2⟩ ⟨⟨nt,nr⟩,ni⟩:=⟨_,rfl⟩
   have HTK:=hid (show(L.take (k+1)).any (fun q:Plc=>q.p.eqb ⟨⟨pt,pr⟩,pi⟩ && decide (q.name=nm) && Gid.lt q.n ⟨⟨nt,nr⟩,ni⟩)=(c1 && c2 && b2) by rw[htk,hc1,hc2,hb2])
   have HME:=hid (show(c1 && c2 && b2)=true→L.any (fun q:Plc=>q.p.eqb ⟨⟨pt,pr⟩,pi⟩ && decide (q.name=nm) && Gid.lt q.n ⟨⟨nt,nr⟩,ni⟩)=true from fun h=>hmem (by rw[hc1,hc2,hb2] at h;exact h))
   have hrw:wr.rangeAt rb (ro+k*8) [.int .i64 t2,.int .i64 r2,.int .i64 n2,.int .i64 u2,.int .i64 v2,.int .i64 i2,.string m2,.bool d2]:=cd hrange hrb HBr.out
   have q1:=eJ u2 v2 i2 pt pr pi c1 hc1.symm
   have q2:(m2.toList == nm.toList)=c2:=beq_str hc2.symm
   have y0:=aj (w:=wr) (a:=⟨rb,ro+k*8,none⟩) (v:= .int .i64 t2) (hrw 0 _ rfl)
   have y1:=aj (w:=wr) (a:=⟨rb,ro+k*8+1,none⟩) (v:= .int .i64 r2) (hrw 1 _ rfl)
   have y2:=aj (w:=wr) (a:=⟨rb,ro+k*8+2,none⟩) (v:= .int .i64 n2) (hrw 2 _ rfl)
   have y3:=aj (w:=wr) (a:=⟨rb,ro+k*8+3,none⟩) (v:= .int .i64 u2) (hrw 3 _ rfl)
   have y4:=aj (w:=wr) (a:=⟨rb,ro+k*8+4,none⟩) (v:= .int .i64 v2) (hrw 4 _ rfl)
   have y5:=aj (w:=wr) (a:=⟨rb,ro+k*8+5,none⟩) (v:= .int .i64 i2) (hrw 5 _ rfl)
   have y6:=aj (w:=wr) (a:=⟨rb,ro+k*8+6,none⟩) (v:= .string m2) (hrw 6 _ rfl)
   have y4':=aj (w:=wr) (a:=⟨rb,ro+k*8+3+1,none⟩) (v:= .int .i64 v2) (hrw 4 _ rfl)
   have y5':=aj (w:=wr) (a:=⟨rb,ro+k*8+3+2,none⟩) (v:= .int .i64 i2) (hrw 5 _ rfl)
   have x0:=aj (w:=wr) (a:=⟨xb,0,none⟩) (v:= .int .i64 nt) (crw HXr.out)
   have x1:=aj (w:=wr) (a:=⟨xb,1,none⟩) (v:= .int .i64 nr) (crw HXr.out)
   have x2:=aj (w:=wr) (a:=⟨xb,2,none⟩) (v:= .int .i64 ni) (crw HXr.out)
   have x3:=aj (w:=wr) (a:=⟨xb,3,none⟩) (v:= .int .i64 pt) (crw HXr.out)
   have x4:=aj (w:=wr) (a:=⟨xb,4,none⟩) (v:= .int .i64 pr) (crw HXr.out)
   have x5:=aj (w:=wr) (a:=⟨xb,5,none⟩) (v:= .int .i64 pi) (crw HXr.out)
   have x6:=aj (w:=wr) (a:=⟨xb,6,none⟩) (v:= .string nm) (crw HXr.out)
   have HBF:=fun W=>gx t2 r2 n2 nt nr ni W
   obtain⟨zc,hzc⟩:∃z,z=rcmpD ⟨⟨t2,r2⟩,n2⟩ ⟨⟨nt,nr⟩,ni⟩:=⟨_,rfl⟩
   rw[←hzc] at HBF
   have hz2:decide (0≤zc)= !b2:=by rw[hzc,jW,hb2]
   have hz3:decide (zc<0)=b2:=by cases b2<;>simp at hz2 ⊢ <;>omega
   clear hzc hz2
   have cA:=fun d os=>ay (HBF (grow (redrawn wr d) os))
   clear hrange hrb hrw hc1 hc2 hb2 htk hmem
   cases c1 with
   |false=>
    go_upto_region 4 with fail
    refine rqb ?_
    repeat(any_goals(first|go_big_quiet_step (with_reducible exact cA _ _)|quiet_step (with_reducible exact cA _ _)))
    refine qz fun wq hBq=> ?_
    have HBq:=hid (HBr.out.trans (hBq.mono HBr.out.size))
    go_wp2
    go_roundw
    case rel=>exact⟨k+1,by omega,by go_num,hid HTK.out,HBq⟩
    case measure=>(simp[RowKit.intOf];omega)
   | true=>
    cases c2 with
    |false=>
     go_upto_region 4 with fail
     refine rqb ?_
     repeat(any_goals(first|go_big_quiet_step (with_reducible exact cA _ _)|quiet_step (with_reducible exact cA _ _)))
     refine qz fun wq hBq=> ?_
     have HBq:=hid (HBr.out.trans (hBq.mono HBr.out.size))
     go_wp2
     go_roundw
     case rel=>exact⟨k+1,by omega,by go_num,hid HTK.out,HBq⟩
     case measure=>(simp[RowKit.intOf];omega)
    | true=>
     cases b2 with
     |false=>
      go_upto_region 4 with fail
      refine rqb ?_
      repeat(any_goals(first|go_big_quiet_step (with_reducible exact cA _ _)|quiet_step (with_reducible exact cA _ _)))
      refine qz fun wq hBq=> ?_
      have HBq:=hid (HBr.out.trans (hBq.mono HBr.out.size))
      go_wp2
      go_roundw
      case rel=>exact⟨k+1,by omega,by go_num,hid HTK.out,HBq⟩
      case measure=>(simp[RowKit.intOf];omega)
     |true=>
      have HT2:=hid (show T=Z by rw[HT.out,aJ (HME.out rfl)])
      go_upto_region 4 with fail
      refine rqb ?_
      repeat(any_goals(first|go_big_quiet_step (with_reducible exact cA _ _)|quiet_step (with_reducible exact cA _ _)))
      refine qz fun wq hBq=> ?_
      have HBq:=hid (HBr.out.trans (hBq.mono HBr.out.size))
      have HXq:=hid ((hBq.block _ (lt_of_block HXr.out)).trans HXr.out)
      have HBQ:=hid (HBX.out.trans (hBq.mono hxr))
      have hxq:=aL hxr hBq.size
      have z0:wq.cell? ⟨xb,0,none⟩=some (.int .i64 nt):=aD _ _ _ _ _ _ HXq.out;have z1:wq.cell? ⟨xb,1,none⟩=some (.int .i64 nr):=aD _ _ _ _ _ _ HXq.out;have z2:wq.cell? ⟨xb,2,none⟩=some (.int .i64 ni):=aD _ _ _ _ _ _ HXq.out;have z6:wq.cell? ⟨xb,6,none⟩=some (.string nm):=aD _ _ _ _ _ _ HXq.out
      clear x0 y0 x1 y1 x2 y2 x3 y3 x4 y4 x5 y5 x6 y6 y4' y5' cA
      go_wp2_with (go_at_call 213;refine(HCL.out _).mono ?_;rintro e w3 ⟨zz,rfl,hB3⟩;have HB3:=hid (HBQ.out.trans (hB3.mono hxq));clear hB3)
      go_ret
      exact⟨by rw[HT2.out];rfl,by rw[HXB.out];exact HB3.out⟩
  ·obtain rfl:k=L.length:=by omega
   have i2:¬(L.length:Int)<(L.length:Int):=by omega
   have HT2:=hid (show T=nm by rw[HT.out,aC (by have h9:=HA.out;rw[aK] at h9;rw[h9];decide)])
   have z6:wr.cell? ⟨xb,6,none⟩=some (.string nm):=aD _ _ _ _ _ _ HXr.out
   go_wp2
   go_ret
   exact⟨by rw[HT2.out];rfl,by rw[HXB.out];exact HBX.out⟩
def iR (L:List Plc):Nat->Plc->Bool
 |0,p=>p.p.eqb .zero
 |f+1,p=>if p.p.eqb .zero=true then true else match dZ L p.p with
  |none=>false
  |some k=>iR L f (L.getD k plc0)
def pathF (L:List Plc):Nat->Plc->ByteArray->ByteArray
 |0,_,s=>s
 |f+1,p,s=>if p.p.eqb .zero=true then s else match dZ L p.p with
  |none=>s
  |some k=>pathF L f (L.getD k plc0) ((⟨#[47]⟩:ByteArray)++nameN L (L.getD k plc0)++s)
def pathN (L:List Plc) (f:Nat) (p:Plc):ByteArray:=pathF L f p ((⟨#[47]⟩:ByteArray)++nameN L p)
theorem pathF_zero (L:List Plc) (f:Nat) (p:Plc) (s:ByteArray) (h:p.p.eqb .zero=true):pathF L f p s=s:=by
 cases f with
 |zero=>rfl
 |succ f=>rw[pathF,aJ h]
theorem path15_any (L:List Plc) (A:Option Addr) (c:Nat) (f0:Nat) (nt nr ni pt pr pi:Int) (nm:ByteArray) (dd:Bool) (S:Nat->Prop) (w00:World) (hl:L.length<=100000) (hnms:∀p∈L,p.name.size<=1000) (hnm:nm.size<=1000) (hf0:f0<=10000) (hcl:iR L f0 (⟨⟨⟨nt,nr⟩,ni⟩,⟨⟨pt,pr⟩,pi⟩,nm,dd⟩:Plc)=true) (hR:RowF w00 S A 8 plcL plc0 L):
  Calls Tryz.prog 172 #[.slice A L.length c,.agg #[nt,nr,ni,pt,pr,pi,nm,dd]] w00 λe w'=>e= .returned (.string (pathN L f0 (⟨⟨⟨nt,nr⟩,ni⟩,⟨⟨pt,pr⟩,pi⟩,nm,dd⟩:Plc)))∧Below w00.heap.size w00 w':=by
 obtain⟨Z,hZ⟩:∃T,T=pathN L f0 (⟨⟨⟨nt,nr⟩,ni⟩,⟨⟨pt,pr⟩,pi⟩,nm,dd⟩:Plc):=⟨_,rfl⟩;rw[<-hZ];obtain⟨N0,hN0⟩:∃T,T=nameN L (⟨⟨⟨nt,nr⟩,ni⟩,⟨⟨pt,pr⟩,pi⟩,nm,dd⟩:Plc):=⟨_,rfl⟩;have HZ:=hid (show Z=pathF L f0 (⟨⟨⟨nt,nr⟩,ni⟩,⟨⟨pt,pr⟩,pi⟩,nm,dd⟩:Plc) ((⟨#[47]⟩:ByteArray)++N0) by rw[hZ,hN0];rfl);have hs0:N0.size<=1061:=by rw[hN0];have h:=nameN_size L (⟨⟨⟨nt,nr⟩,ni⟩,⟨⟨pt,pr⟩,pi⟩,nm,dd⟩:Plc);have h2:(⟨⟨⟨nt,nr⟩,ni⟩,⟨⟨pt,pr⟩,pi⟩,nm,dd⟩:Plc).name.size<=1000:=hnm;omega
 have hb0:Below w00.heap.size w00 (w00.alloc (.cells #[nt,nr,ni,pt,pr,pi,nm,dd] 161)):=(ag _ _).alloc (aa _) _;have HB0:=hid hb0;have HX0:=hid (am w00 (.cells #[nt,nr,ni,pt,pr,pi,nm,dd] 161));have HR:=hid hR;have HCL:=hid hcl;have HNS:=hid hnms;have HN1:=hid (show Calls Tryz.prog 197 #[.slice A L.length c,.agg #[nt,nr,ni,pt,pr,pi,nm,dd]] (w00.alloc (.cells #[nt,nr,ni,pt,pr,pi,nm,dd] 161)) λe w'=>e= .returned (.string N0)∧Below (w00.alloc (.cells #[nt,nr,ni,pt,pr,pi,nm,dd] 161)).heap.size (w00.alloc (.cells #[nt,nr,ni,pt,pr,pi,nm,dd] 161)) w' from by rw[hN0];exact name15_any L A c nt nr ni pt pr pi nm dd S _ hl (by omega) (hR.below hb0));clear hR hZ hN0 hb0 hcl hnms;go_enter Tryz.func172,Tryz.ntmps172;go_upto_region 1 with fail;generalize hW:w00.alloc (.cells #[nt,nr,ni,pt,pr,pi,nm,dd] 161)=w at *;clear hW;have hxs:=HB0.out.size;generalize hxb:w00.heap.size=xb at *;have HXB:=hid hxb;clear hxb
 go_upto_region 2 with(first
  |(refine lA HX0 ca ?_)
  |(go_at_call 197;refine HN1.out.mono ?_;rintro e w1 ⟨rfl,hB1⟩;have HX1:=bK hB1 HX0;have HB1:=hid (HB0.out.trans (hB1.mono hxs));have hx1:=aL hxs hB1.size;clear hB1))
 have HSS:=hid (show((⟨#[47]⟩:ByteArray)++N0).size<=1100 by simp only[aZ];rw[show(⟨#[47]⟩:ByteArray).size=1 from rfl];omega);obtain⟨T0,hT0⟩:∃T,T=(⟨#[47]⟩:ByteArray)++N0:=⟨_,rfl⟩;rw[<-hT0] at HSS HZ;have hT0b:T0.size<=1100:=HSS.out;have HT0:=hid hT0;simp only[<-hT0];clear hT0;go_loopw [5] (λs wr=>∃(f:Nat) (p:Plc) (T:ByteArray),s= .string T∧f<=10000∧T.size+f*1100<=20000000∧p.name.size<=1000∧Hid (iR L f p=true)∧Hid (wr.heap[xb]? =some (.cells (plcL p).toArray 161 (0,0)))∧Hid (Z=pathF L f p T)∧Hid (Below xb w00 wr)∧xb<=wr.heap.size) (λs _=>match s with| .string T=>20000000-T.size|_=>0)
 case atStart=>exact⟨f0,(⟨⟨⟨nt,nr⟩,ni⟩,⟨⟨pt,pr⟩,pi⟩,nm,dd⟩:Plc),T0,rfl,hf0,by omega,hnm,HCL,HX1,HZ,HB1,hx1⟩
 case round=>
  obtain⟨f,p,T,rfl,hf,hT,hpn,HC,HX,HA,HBr,hxr⟩:=hrel;obtain⟨⟨⟨nt,nr⟩,ni⟩,⟨⟨pt,pr⟩,pi⟩,nm,dd⟩:=p;have HX:Hid (wr.heap[xb]? =some (.cells #[nt,nr,ni,pt,pr,pi,nm,dd] 161 (0,0))):=HX;obtain⟨b0,hb0⟩:∃b,b=Gid.eqb ⟨⟨pt,pr⟩,pi⟩ .zero:=⟨_,rfl⟩;have q0:=ne_id pt pr pi 0 0 0 b0 hb0.symm;have HPR:=hid (show wr.rangeAt xb 3 [pt,pr,pi] from bv (pre:=[nt,nr,ni]) (mid:=[pt,pr,pi]) (post:=[nm,dd]) (bf HX.out));cases b0 with
  |true=>
   have HA2:=hid (show Z=T by rw[HA.out];exact pathF_zero L f _ T hb0.symm);clear hb0;go_wp2_with (refine ii rfl _ _ rfl xb 3 rfl [pt,pr,pi] _ HPR.out aw rfl (by kernel_rfl) ?_);go_ret;exact⟨by rw[HA2.out];rfl,by rw[HXB.out];exact HBr.out⟩
  | false=>
   cases f with
   |zero=>exact absurd (show Gid.eqb ⟨⟨pt,pr⟩,pi⟩ .zero=true from HC.out) (by rw[<-hb0];decide)
   | succ f=>
    have hc:=HC.out;rw[iR,aC (show ¬Gid.eqb ⟨⟨pt,pr⟩,pi⟩ .zero=true by rw[<-hb0];decide)] at hc;have ha:=HA.out;rw[pathF,aC (show ¬Gid.eqb ⟨⟨pt,pr⟩,pi⟩ .zero=true by rw[<-hb0];decide)] at ha;have hfd9:dZ L (⟨⟨⟨nt,nr⟩,ni⟩,⟨⟨pt,pr⟩,pi⟩,nm,dd⟩:Plc).p=dZ L ⟨⟨pt,pr⟩,pi⟩:=rfl;rw[hfd9] at hc ha;have hrow:RowF wr S A 8 plcL plc0 L:=HR.out.below (by rw[HXB.out];exact HBr.out);have HFD:=hid (show Calls Tryz.prog 169 #[.slice A L.length c,.agg #[pt,pr,pi]] wr λe w'=>e= .returned (.int .i64 (ixI (dZ L ⟨⟨pt,pr⟩,pi⟩)))∧Below wr.heap.size wr w' from gX L A c ⟨⟨pt,pr⟩,pi⟩ S wr (by omega) hrow);cases hfd:dZ L ⟨⟨pt,pr⟩,pi⟩ with
    |none=>rw[hfd] at hc;exact absurd (show false=true from hc) (by decide)
    | some k=>
     obtain⟨hk,-⟩:=fL hfd;rw[hfd] at hc ha HFD;have hc:iR L f (L.getD k plc0)=true:=hc;have ha:Z=pathF L f (L.getD k plc0) ((⟨#[47]⟩:ByteArray)++nameN L (L.getD k plc0)++T):=ha;obtain⟨rb,ro,hAe,-,hrb,hrange⟩:=hrow.range (λ_=>rfl) hk;have hns:=HNS.out _ (bL hk plc0);have i3:(0:Int)<=(k:Int):=by omega
     have i4:(k:Int)<(L.length:Int):=by omega
     obtain⟨y,hy⟩:∃y,y=L.getD k plc0:=⟨_,rfl⟩;rw[<-hy] at hc ha hrange hns;obtain⟨⟨⟨t2,r2⟩,n2⟩,⟨⟨u2,v2⟩,i2⟩,m2,d2⟩:=y;have hm2:m2.size<=1000:=hns;obtain⟨M,hM⟩:∃M,M=nameN L (⟨⟨⟨t2,r2⟩,n2⟩,⟨⟨u2,v2⟩,i2⟩,m2,d2⟩:Plc):=⟨_,rfl⟩;have hms:M.size<=1061:=by rw[hM];have h:=nameN_size L (⟨⟨⟨t2,r2⟩,n2⟩,⟨⟨u2,v2⟩,i2⟩,m2,d2⟩:Plc);have h2:(⟨⟨⟨t2,r2⟩,n2⟩,⟨⟨u2,v2⟩,i2⟩,m2,d2⟩:Plc).name.size<=1000:=hm2;omega
     rw[<-hM] at ha;have HNM:=hid (λW (hB:Below xb w00 W)=>show Calls Tryz.prog 197 #[.slice A L.length c,.agg #[t2,r2,n2,u2,v2,i2,m2,d2]] W λe w'=>e= .returned (.string M)∧Below W.heap.size W w' from by rw[hM];exact name15_any L A c t2 r2 n2 u2 v2 i2 m2 d2 S W hl (by omega) (HR.out.below (by rw[HXB.out];exact hB)));have HRW:=hid (λW (hB:Below wr.heap.size wr W)=>show W.rangeAt rb (ro+k*8) [t2,r2,n2,u2,v2,i2,m2,d2] from cd hrange hrb hB);have HC2:=hid hc;have HPC:=hid (show(#[t2,r2,n2,u2,v2,i2,m2,d2]:Array Value).toList.all (·.oneCell')=true from rfl);have HA3:=hid ha;have HMS:=hid (show((⟨#[47]⟩:ByteArray)++M++T).size=1+M.size+T.size by simp only[aZ];rfl);subst hAe;clear hb0 hc ha hfd9 hrow hfd hrange hrb hns hy hM HA HC;go_upto_region 3 with(refine ii rfl _ _ rfl xb 3 rfl [pt,pr,pi] _ HPR.out aw rfl (by kernel_rfl) ?_)
     go_upto_region 4 with(first
      |(refine ii rfl _ _ rfl xb 3 rfl [pt,pr,pi] _ HPR.out aw rfl (by kernel_rfl) ?_)
      |(go_at_call 169;refine HFD.out.mono ?_;rintro e w2 ⟨rfl,hB2⟩;have HX2:=bK hB2 HX;have HB2:=hid (HBr.out.trans (hB2.mono hxr));have hx2:=aL hxr hB2.size;have HRX:=hid (HRW.out w2 hB2);obtain⟨V,hV⟩:∃V,V=w2.setRow xb #[t2,r2,n2,u2,v2,i2,m2,d2]:=⟨_,rfl⟩;have HV:=hid hV;have HX3:=hid (show V.heap[xb]? =some (.cells #[t2,r2,n2,u2,v2,i2,m2,d2] 161 (0,0)) by rw[hV];exact aM _ HX2.out);have HB3:=hid (show Below xb w00 V by rw[hV];exact Below.setRow' HB2.out (aa _) _);have hx3:xb<=V.heap.size:=(by rw[hV];simpa[World.setRow] using hx2);clear hB2 hV;dsimp only[ixI])
      |(refine lM HRX ca ?_)
      |(refine da rfl _ _ _ rfl xb 161 #[nt,nr,ni,pt,pr,pi,nm,dd] #[t2,r2,n2,u2,v2,i2,m2,d2] rfl rfl HX2.out (by kernel_rfl) rfl HPC.out ?_;rw[<-HV.out]))
     go_wp2_with (first
      |(refine lA HX3 ca ?_)
      |(go_at_call 197;refine(HNM.out V HB3.out).mono ?_;rintro e w4 ⟨rfl,hB4⟩;have HX4:=bK hB4 HX3;have HB4:=hid (HB3.out.trans (hB4.mono hx3));have hx4:=aL hx3 hB4.size;clear hB4))
     go_roundw
     case rel=>exact⟨f,(⟨⟨⟨t2,r2⟩,n2⟩,⟨⟨u2,v2⟩,i2⟩,m2,d2⟩:Plc),_,rfl,by omega,by rw[HMS.out];omega,hm2,HC2,HX4,HA3,HB4,hx4⟩
     case measure=>show 20000000-((⟨#[47]⟩:ByteArray)++M++T).size<20000000-T.size;rw[HMS.out];omega
end
end Go.Proofs.YtkhmicndehlneaaGreatDoor
