/- Part 21 of the walks and plain laws that this claim uses, joined. Conditions: as each theorem states. -/
import Init.Data.Nat.Bitwise
import Init.Data.UInt.Lemmas
import Derived.Test.YtkhmicndehlneaaGreatDoorYtt
namespace Go.Proofs.YtkhmicndehlneaaGreatDoor
set_option maxRecDepth 100000
set_option maxHeartbeats 16000000
section
open Go.RowKit Go.Lib Go.Sort
set_option linter.unusedVariables false
attribute [local go_sem ↓] Go.wp_at_zero Go.wp_at_succ
def stepR (out:List Plc) (p:Plc):List Plc:=if (p.n.right && nameB p.name && (findP out p.n).isNone)=true then out++[p] else out
def rightP (l:List Plc):List Plc:=l.foldl stepR []
theorem stepR_len (out:List Plc) (p:Plc):(stepR out p).length≤out.length+1:=by
 unfold stepR
 split
 ·rw[List.length_append];exact Nat.le_refl _
 ·omega
theorem foldR_len:∀(l:List Plc) (out:List Plc),(l.foldl stepR out).length≤out.length+l.length
 | [],out=>Nat.le_refl _
 |x::l,out=>by
  have h1:=foldR_len l (stepR out x)
  have h2:=stepR_len out x
  rw[List.foldl_cons,List.length_cons];omega
theorem rightP_len (l:List Plc):(rightP l).length≤l.length:=by
 have h:=foldR_len l []
 simpa[rightP] using h
theorem right15_any (L:List Plc) (A:Option Addr) (c:Nat) (S:Nat→Prop) (w:World) (hl:L.length≤100000) (hnm:∀p∈L,p.name.size≤1000000) (hR:RowF w S A 8 plcL plc0 L):
  Calls Tryz.prog 195 #[.slice A L.length c] w fun e w'=>∃A' c',e= .returned (.slice A' (rightP L).length c')∧w'.ownsRow w.heap.size 161 8 (.slice A' (rightP L).length c') (rightP L).length ((rightP L).flatMap plcL)∧Below w.heap.size w w':=by
 obtain⟨i0,hi,hz0,hz1,hz2⟩:=info_parts info_plc
 have HR:=hid hR
 have HN:=hid hnm
 clear hR hnm
 go_enter Tryz.func195,Tryz.ntmps195
 go_upto_region 3 with fail
 go_loopw [3,4] (fun o i wr=>∃(k:Nat) (A':Option Addr) (c' m:Nat) (M:List Plc),k≤L.length∧i= .int .i64 k∧o= .slice A' m c'∧m≤k∧Hid (m=M.length)∧Hid (M=rightP (L.take k))∧Hid (wr.ownsRow w.heap.size 161 8 (.slice A' m c') m (M.flatMap plcL))∧Hid (Below w.heap.size w wr)) (fun o i _=>L.length-(RowKit.intOf i).toNat)
 case atStart=>exact⟨0,none,0,0,[],Nat.zero_le _,rfl,rfl,Nat.le_refl _,hid rfl,hid rfl,hid (World.ownsRow_nil w w.heap.size 161 8),hid (Below.refl _ _)⟩
 case round=>
  obtain⟨k,A',c',m,M,hk,rfl,rfl,hmk,HML,HM,HO,HBr⟩:=hrel
  by_cases hlt:k<L.length
  ·have i1:(0:Int)≤(k:Int):=by omega
   have i2:(k:Int)<(L.length:Int):=by omega
   obtain⟨rb,ro,rfl,-,hrb,hrange⟩:=HR.out.range (fun _=>rfl) hlt
   have hst:rightP (L.take (k+1))=stepR M (L.getD k plc0):=by rw[HM.out];exact foldl_take _ _ hlt plc0
   have hns:=HN.out _ (getD_memF hlt plc0)
   generalize L.getD k plc0=p at *
   obtain⟨⟨⟨nt,nr⟩,ni⟩,⟨⟨pt,pr⟩,pi⟩,nm,dd⟩:=p
   have hns:nm.size≤1000000:=hns
   have HRW:=hid (fun W (hB:Below w.heap.size w W)=>show W.rangeAt rb (ro+k*8) [.int .i64 nt,.int .i64 nr,.int .i64 ni,.int .i64 pt,.int .i64 pr,.int .i64 pi,.string nm,.bool dd] from rangeB hrange hrb hB)
   have HPX:=hid (show wr.rangeAt rb (ro+k*8) [.int .i64 nt,.int .i64 nr,.int .i64 ni] from range_mid (pre:=[]) (mid:=[.int .i64 nt,.int .i64 nr,.int .i64 ni]) (post:=[.int .i64 pt,.int .i64 pr,.int .i64 pi,.string nm,.bool dd]) (HRW.out wr HBr.out))
   have hsz:=HBr.out.size
   obtain⟨b1,hb1⟩:∃b,b=Gid.right ⟨⟨nt,nr⟩,ni⟩:=⟨_,rfl⟩
   obtain⟨b2,hb2⟩:∃b,b=nameB nm:=⟨_,rfl⟩
   have HST:=hid (show rightP (L.take (k+1))=if (b1 && b2 && (findP M ⟨⟨nt,nr⟩,ni⟩).isNone)=true then M++[⟨⟨⟨nt,nr⟩,ni⟩,⟨⟨pt,pr⟩,pi⟩,nm,dd⟩] else M by rw[hst,hb1,hb2];rfl)
   have HRI:=hid (fun W=>show Calls Tryz.prog 192 #[.agg #[.int .i64 nt,.int .i64 nr,.int .i64 ni]] W fun e w'=>e= .returned (.bool b1)∧Below W.heap.size W w' from by rw[hb1];exact refrightid_any nt nr ni W)
   have HNM:=hid (fun W=>show Calls Tryz.prog 159 #[.string nm] W fun e w'=>e= .returned (.bool b2)∧w'=W from by rw[hb2];exact refname_any nm W (by omega))
   have HFD:=hid (fun W (hB:Below wr.heap.size wr W)=>show Calls Tryz.prog 169 #[.slice A' m c',.agg #[.int .i64 nt,.int .i64 nr,.int .i64 ni]] W fun e w'=>e= .returned (.int .i64 (ixI (findP M ⟨⟨nt,nr⟩,ni⟩)))∧Below W.heap.size W w' from by
    have h9:=findplc_any M A' c' ⟨⟨nt,nr⟩,ni⟩ _ W (by rw[←HML.out];omega) (ownN_rowF (f:=plcL) (z:=plc0) (fun _=>rfl) HML.out (HO.out.kept (gby_below (r:=none) hB) (Classical.em _)))
    rw[←HML.out] at h9;exact h9)
   clear hst hb1 hb2 hrange hrb
   cases b1 with
   | false=>
    have HS9:=hid (show rightP (L.take (k+1))=M by rw[HST.out];rfl)
    go_wp2_with (first
     |(refine wpList_load_mid rfl _ _ rfl rb (ro+k*8) rfl [.int .i64 nt,.int .i64 nr,.int .i64 ni] _ HPX.out Tryz.underlying108 rfl (by kernel_rfl) ?_)
     |(go_at_call 192;refine(HRI.out wr).mono ?_;rintro e w2 ⟨rfl,hB2⟩;have HB2:=hid (HBr.out.trans (hB2.mono hsz));have HX2:=hid hB2;have HC2:=hid (HRW.out w2 HB2.out);have HO2:=hid (HO.out.kept (gby_below (r:=none) HX2.out) (Classical.em _));clear hB2;have v0:w2.cell? ⟨rb,ro+k*8,none⟩=some (.int .i64 nt):=HC2.out 0 _ rfl;have v1:w2.cell? ⟨rb,ro+k*8+1,none⟩=some (.int .i64 nr):=HC2.out 1 _ rfl;have v2:w2.cell? ⟨rb,ro+k*8+2,none⟩=some (.int .i64 ni):=HC2.out 2 _ rfl;have v6:w2.cell? ⟨rb,ro+k*8+6,none⟩=some (.string nm):=HC2.out 6 _ rfl))
    go_roundw
    case rel=>exact⟨k+1,A',c',m,M,by omega,by go_num,rfl,by omega,HML,hid HS9.out.symm,HO2,HB2⟩
    case measure=>(simp[RowKit.intOf];omega)
   | true=>
    cases b2 with
    | false=>
     have HS9:=hid (show rightP (L.take (k+1))=M by rw[HST.out];rfl)
     go_wp2_with (first
      |(refine wpList_load_mid rfl _ _ rfl rb (ro+k*8) rfl [.int .i64 nt,.int .i64 nr,.int .i64 ni] _ HPX.out Tryz.underlying108 rfl (by kernel_rfl) ?_)
      |(go_at_call 192;refine(HRI.out wr).mono ?_;rintro e w2 ⟨rfl,hB2⟩;have HB2:=hid (HBr.out.trans (hB2.mono hsz));have HX2:=hid hB2;have HC2:=hid (HRW.out w2 HB2.out);have HO2:=hid (HO.out.kept (gby_below (r:=none) HX2.out) (Classical.em _));clear hB2;have v0:w2.cell? ⟨rb,ro+k*8,none⟩=some (.int .i64 nt):=HC2.out 0 _ rfl;have v1:w2.cell? ⟨rb,ro+k*8+1,none⟩=some (.int .i64 nr):=HC2.out 1 _ rfl;have v2:w2.cell? ⟨rb,ro+k*8+2,none⟩=some (.int .i64 ni):=HC2.out 2 _ rfl;have v6:w2.cell? ⟨rb,ro+k*8+6,none⟩=some (.string nm):=HC2.out 6 _ rfl)
      |(go_at_call 159;refine(HNM.out w2).mono ?_;rintro e w3 ⟨rfl,rfl⟩))
     go_roundw
     case rel=>exact⟨k+1,A',c',m,M,by omega,by go_num,rfl,by omega,HML,hid HS9.out.symm,HO2,HB2⟩
     case measure=>(simp[RowKit.intOf];omega)
    | true=>
     cases hfd:findP M ⟨⟨nt,nr⟩,ni⟩ with
     | some kf=>
      have HS9:=hid (show rightP (L.take (k+1))=M by rw[HST.out,hfd];rfl)
      rw[hfd] at HFD
      have k1:¬(kf:Int)<0:=by omega
      clear hfd HST
      go_wp2_with (first
       |(refine wpList_load_mid rfl _ _ rfl rb (ro+k*8) rfl [.int .i64 nt,.int .i64 nr,.int .i64 ni] _ HPX.out Tryz.underlying108 rfl (by kernel_rfl) ?_)
       |(go_at_call 192;refine(HRI.out wr).mono ?_;rintro e w2 ⟨rfl,hB2⟩;have HB2:=hid (HBr.out.trans (hB2.mono hsz));have HX2:=hid hB2;have HC2:=hid (HRW.out w2 HB2.out);have HO2:=hid (HO.out.kept (gby_below (r:=none) HX2.out) (Classical.em _));clear hB2;have v0:w2.cell? ⟨rb,ro+k*8,none⟩=some (.int .i64 nt):=HC2.out 0 _ rfl;have v1:w2.cell? ⟨rb,ro+k*8+1,none⟩=some (.int .i64 nr):=HC2.out 1 _ rfl;have v2:w2.cell? ⟨rb,ro+k*8+2,none⟩=some (.int .i64 ni):=HC2.out 2 _ rfl;have v6:w2.cell? ⟨rb,ro+k*8+6,none⟩=some (.string nm):=HC2.out 6 _ rfl)
       |(go_at_call 159;refine(HNM.out w2).mono ?_;rintro e w3 ⟨rfl,rfl⟩)
       |(go_at_call 169;refine(HFD.out _ HX2.out).mono ?_;rintro e w4 ⟨rfl,hB3⟩;have HB3:=hid (HB2.out.trans (hB3.mono HB2.out.size));have HO3:=hid (HO2.out.kept (gby_below (r:=none) hB3) (Classical.em _));clear hB3;dsimp only[ixI]))
      go_roundw
      case rel=>exact⟨k+1,A',c',m,M,by omega,by go_num,rfl,by omega,HML,hid HS9.out.symm,HO3,HB3⟩
      case measure=>(simp[RowKit.intOf];omega)
     | none=>
      have HS9:=hid (show rightP (L.take (k+1))=M++[⟨⟨⟨nt,nr⟩,ni⟩,⟨⟨pt,pr⟩,pi⟩,nm,dd⟩] by rw[HST.out,hfd];rfl)
      rw[hfd] at HFD
      clear hfd HST
      go_upto_region 6 with(first
       |(refine wpList_load_mid rfl _ _ rfl rb (ro+k*8) rfl [.int .i64 nt,.int .i64 nr,.int .i64 ni] _ HPX.out Tryz.underlying108 rfl (by kernel_rfl) ?_)
       |(go_at_call 192;refine(HRI.out wr).mono ?_;rintro e w2 ⟨rfl,hB2⟩;have HB2:=hid (HBr.out.trans (hB2.mono hsz));have HX2:=hid hB2;have HC2:=hid (HRW.out w2 HB2.out);have HO2:=hid (HO.out.kept (gby_below (r:=none) HX2.out) (Classical.em _));clear hB2;have v0:w2.cell? ⟨rb,ro+k*8,none⟩=some (.int .i64 nt):=HC2.out 0 _ rfl;have v1:w2.cell? ⟨rb,ro+k*8+1,none⟩=some (.int .i64 nr):=HC2.out 1 _ rfl;have v2:w2.cell? ⟨rb,ro+k*8+2,none⟩=some (.int .i64 ni):=HC2.out 2 _ rfl;have v6:w2.cell? ⟨rb,ro+k*8+6,none⟩=some (.string nm):=HC2.out 6 _ rfl)
       |(go_at_call 159;refine(HNM.out w2).mono ?_;rintro e w3 ⟨rfl,rfl⟩)
       |(go_at_call 169;refine(HFD.out _ HX2.out).mono ?_;rintro e w4 ⟨rfl,hB3⟩;have HB3:=hid (HB2.out.trans (hB3.mono HB2.out.size));have HO3:=hid (HO2.out.kept (gby_below (r:=none) hB3) (Classical.em _));clear hB3;dsimp only[ixI]))
      have HRX:=hid (HRW.out w4 HB3.out)
      have hsz3:=HB3.out.size
      clear v0 v1 v2 v6
      go_wp2_with (first
       |(refine wpList_load_mid rfl _ _ rfl rb (ro+k*8) rfl [.int .i64 nt,.int .i64 nr,.int .i64 ni,.int .i64 pt,.int .i64 pr,.int .i64 pi,.string nm,.bool dd] _ HRX.out Tryz.underlying161 rfl (by kernel_rfl) ?_)
       |(at_builtin;refine wpList_append_lies _ rfl _ _ 101 rfl w.heap.size 161 i0 (.agg #[.int .i64 0,.int .i64 0,.int .i64 0,.int .i64 0,.int .i64 0,.int .i64 0,.string ⟨#[]⟩,.bool false]) 8 72 Tryz.underlying101 hi hz0 hz1 hz2 rfl (by decide) (.slice A' m c') m _ rfl (by exact HO3.out.alloc _) ⟨w4.heap.size,0,none⟩ 1 1 [.int .i64 nt,.int .i64 nr,.int .i64 ni,.int .i64 pt,.int .i64 pr,.int .i64 pi,.string nm,.bool dd] rfl rfl (fun j y h=>cellsN w4 [.int .i64 nt,.int .i64 nr,.int .i64 ni,.int .i64 pt,.int .i64 pr,.int .i64 pi,.string nm,.bool dd] 161 j y h) (oc_of (c:=#[.int .i64 nt,.int .i64 nr,.int .i64 ni,.int .i64 pt,.int .i64 pr,.int .i64 pi,.string nm,.bool dd]) rfl) (by decide) (by unfold maxLen;omega) (by omega) (by simp;omega) (w4.heap.size+1) (by simp) ?_;intro gq cap w5 hown hgrow ha hlt5;have HO5:=hid hown;have HB5:=hid ((HB3.out.alloc hsz3 _).grown hgrow (by simp;omega) (fun b hb=>(HO3.out.lt b hb).1));clear hown hgrow ha hlt5))
      go_roundw
      case rel=>exact⟨k+1,some ⟨gq,0,none⟩,cap,m+1,M++[⟨⟨⟨nt,nr⟩,ni⟩,⟨⟨pt,pr⟩,pi⟩,nm,dd⟩],by omega,by go_num,rfl,by omega,hid (by rw[List.length_append,←HML.out];rfl),hid HS9.out.symm,hid (by rw[List.flatMap_append];exact HO5.out),HB5⟩
      case measure=>(simp[RowKit.intOf];omega)
  ·obtain rfl:k=L.length:=by omega
   have i2:¬(L.length:Int)<(L.length:Int):=by omega
   have HM9:=hid (show M=rightP L by have h9:=HM.out;rw[List.take_length] at h9;exact h9)
   go_wp2
   go_ret
   refine⟨A',c',by rw[←HM9.out,←HML.out];rfl,?_,HBr.out⟩
   rw[←HM9.out,←HML.out];exact HO.out
def rootedF (L:List Plc):Nat→Gid→Bool
 |0,_=>false
 | f+1,x=>match findP L x with
  |none=>false
  |some k=>if (L.getD k plc0).p.eqb .zero=true then true else match findP L (L.getD k plc0).p with
   |none=>false
   |some k2=>if (L.getD k2 plc0).dir=true then rootedF L f (L.getD k plc0).p else false
def rooted (L:List Plc) (x:Gid):Bool:=rootedF L (L.length+1) x
theorem rooted_any (L:List Plc) (A:Option Addr) (c:Nat) (xt xr xi:Int) (S:Nat→Prop) (w00:World) (hl:L.length≤100000) (hR:RowF w00 S A 8 plcL plc0 L):
  Calls Tryz.prog 196 #[.slice A L.length c,.agg #[.int .i64 xt,.int .i64 xr,.int .i64 xi]] w00 fun e w'=>e= .returned (.bool (rooted L ⟨⟨xt,xr⟩,xi⟩))∧Below w00.heap.size w00 w':=by
 obtain⟨ans,hans⟩:∃b,b=rooted L ⟨⟨xt,xr⟩,xi⟩:=⟨_,rfl⟩
 rw[←hans]
 have HANS:=hid hans
 have hb0:Below w00.heap.size w00 (w00.alloc (.cells #[.int .i64 xt,.int .i64 xr,.int .i64 xi] 108)):=(Below.refl _ _).alloc (Nat.le_refl _) _
 have HB0:=hid hb0
 have HX0:=hid (heap_alloc_new w00 (.cells #[.int .i64 xt,.int .i64 xr,.int .i64 xi] 108))
 have HR:=hid hR
 clear hR hans hb0
 go_enter Tryz.func196,Tryz.ntmps196
 go_upto_region 2 with fail
 generalize hW:w00.alloc (.cells #[.int .i64 xt,.int .i64 xr,.int .i64 xi] 108)=w at *
 clear hW
 obtain⟨xb,hxb⟩:∃x,x=w00.heap.size:=⟨_,rfl⟩
 have HXB:=hid hxb
 rw[←hxb] at HX0 ⊢
 clear hxb
 go_loopw [5] (fun i wr=>∃(n:Nat) (x:Gid),n≤L.length+1∧i= .int .i64 n∧Hid (wr.heap[xb]? =some (.cells (idL x).toArray 108 (0,0)))∧Hid (ans=rootedF L (L.length+1-n) x)∧Hid (Below w00.heap.size w00 wr)) (fun i _=>L.length+1-(RowKit.intOf i).toNat)
 case atStart=>exact⟨0,⟨⟨xt,xr⟩,xi⟩,Nat.zero_le _,rfl,HX0,hid (by rw[HANS.out];rfl),HB0⟩
 case round=>
  obtain⟨n,x,hn,rfl,HX,HA,HBr⟩:=hrel
  by_cases hlt:n≤L.length
  ·have i1:(n:Int)≤(L.length:Int):=by omega
   obtain⟨f,hf⟩:∃f,L.length+1-n=f+1:=⟨L.length-n,by omega⟩
   have HF:=hid (show L.length+1-(n+1)=f by omega)
   rw[hf] at HA
   obtain⟨⟨t,r⟩,q⟩:=x
   have HX:Hid (wr.heap[xb]? =some (.cells #[.int .i64 t,.int .i64 r,.int .i64 q] 108 (0,0))):=HX
   have HFD:=hid (show Calls Tryz.prog 169 #[.slice A L.length c,.agg #[.int .i64 t,.int .i64 r,.int .i64 q]] wr fun e w'=>e= .returned (.int .i64 (ixI (findP L ⟨⟨t,r⟩,q⟩)))∧Below wr.heap.size wr w' from findplc_any L A c ⟨⟨t,r⟩,q⟩ S wr (by omega) (HR.out.below HBr.out))
   cases hfd:findP L ⟨⟨t,r⟩,q⟩ with
   | none=>
    have HA2:=hid (show ans=false by rw[HA.out,rootedF,hfd])
    rw[hfd] at HFD
    clear hf hfd
    go_wp2_with (first
     |(refine load_at rfl _ _ rfl xb _ _ _ rfl HX.out Tryz.underlying108 rfl ?_ ?_;kernel_rfl)
     |(go_at_call 169;refine HFD.out.mono ?_;rintro e w2 ⟨rfl,hB2⟩;have HX2:=hid ((hB2.block _ (lt_of_block HX.out)).trans HX.out);have HB2:=hid (HBr.out.trans (hB2.mono HBr.out.size));clear hB2;dsimp only[ixI]))
    go_ret
    exact⟨by rw[HA2.out];rfl,HB2.out⟩
   | some k=>
    obtain⟨hk,-⟩:=findP_lt hfd
    have ha2:ans=(if (L.getD k plc0).p.eqb .zero=true then true else match findP L (L.getD k plc0).p with
     |none=>false
     |some k2=>if (L.getD k2 plc0).dir=true then rootedF L f (L.getD k plc0).p else false):=by rw[HA.out,rootedF,hfd]
    rw[hfd] at HFD
    obtain⟨rb,ro,hAe,-,hrb,hrange⟩:=HR.out.range (fun _=>rfl) hk
    have i3:(0:Int)≤(k:Int):=by omega
    have i4:(k:Int)<(L.length:Int):=by omega
    have i5:¬(k:Int)<0:=by omega
    have hpp:∃p,p=L.getD k plc0:=⟨_,rfl⟩
    obtain⟨p,hp⟩:=hpp
    rw[←hp] at ha2 hrange
    obtain⟨⟨⟨nt,nr⟩,ni⟩,⟨⟨pt,pr⟩,pi⟩,nm,dd⟩:=p
    have HRW:=hid (fun W (hB:Below w00.heap.size w00 W)=>show W.rangeAt rb (ro+k*8+3) [.int .i64 pt,.int .i64 pr,.int .i64 pi] from range_mid (pre:=[.int .i64 nt,.int .i64 nr,.int .i64 ni]) (post:=[.string nm,.bool dd]) (rangeB hrange hrb hB))
    have HPC:=hid (show(#[.int .i64 pt,.int .i64 pr,.int .i64 pi]:Array Value).toList.all (·.oneCell')=true from rfl)
    have HF2:=hid (fun W (hB:Below w00.heap.size w00 W)=>show Calls Tryz.prog 169 #[.slice A L.length c,.agg #[.int .i64 pt,.int .i64 pr,.int .i64 pi]] W fun e w'=>e= .returned (.int .i64 (ixI (findP L ⟨⟨pt,pr⟩,pi⟩)))∧Below W.heap.size W w' from findplc_any L A c ⟨⟨pt,pr⟩,pi⟩ S W (by omega) (HR.out.below hB))
    obtain⟨b0,hb0⟩:∃b,b=Gid.eqb ⟨⟨pt,pr⟩,pi⟩ .zero:=⟨_,rfl⟩
    have q0:=eq_id pt pr pi 0 0 0 b0 hb0.symm
    have HA3:=hid (show ans=(if b0=true then true else match findP L ⟨⟨pt,pr⟩,pi⟩ with
     |none=>false
     |some k2=>if (L.getD k2 plc0).dir=true then rootedF L f ⟨⟨pt,pr⟩,pi⟩ else false) by rw[hb0];exact ha2)
    have HAE:=hid hAe
    subst hAe
    clear hf hfd hrange hrb hp ha2 hb0 HA
    go_upto_region 7 with(first
     |(refine load_at rfl _ _ rfl xb _ _ _ rfl HX.out Tryz.underlying108 rfl ?_ ?_;kernel_rfl)
     |(go_at_call 169;refine HFD.out.mono ?_;rintro e w2 ⟨rfl,hB2⟩;have HX2:=hid ((hB2.block _ (lt_of_block HX.out)).trans HX.out);have HB2:=hid (HBr.out.trans (hB2.mono HBr.out.size));clear hB2;dsimp only[ixI]))
    have HRX:=hid (HRW.out w2 HB2.out)
    obtain⟨V,hV⟩:∃V,V=w2.setRow xb #[.int .i64 pt,.int .i64 pr,.int .i64 pi]:=⟨_,rfl⟩
    have HV:=hid hV
    have HX3:=hid (show V.heap[xb]? =some (.cells #[.int .i64 pt,.int .i64 pr,.int .i64 pi] 108 (0,0)) by rw[hV];exact heap_setRow_same _ HX2.out)
    have HB3:=hid (show Below w00.heap.size w00 V by rw[hV];exact Below.setRow' HB2.out (by rw[HXB.out];exact Nat.le_refl _) _)
    clear hV
    cases b0 with
    | true=>
     have HA4:=hid (show ans=true by rw[HA3.out];rfl)
     go_upto_region 8 with(first
      |(refine wpList_load_mid rfl _ _ rfl rb (ro+k*8+3) rfl [.int .i64 pt,.int .i64 pr,.int .i64 pi] _ HRX.out Tryz.underlying108 rfl (by kernel_rfl) ?_)
      |(refine store_at rfl _ _ _ rfl xb 108 #[.int .i64 t,.int .i64 r,.int .i64 q] #[.int .i64 pt,.int .i64 pr,.int .i64 pi] rfl rfl HX2.out (by kernel_rfl) rfl HPC.out ?_;rw[←HV.out]))
     go_wp2_with (refine load_at rfl _ _ rfl xb _ _ _ rfl HX3.out Tryz.underlying108 rfl ?_ ?_;kernel_rfl)
     go_ret
     exact⟨by rw[HA4.out];rfl,HB3.out⟩
    | false=>
     cases hf2:findP L ⟨⟨pt,pr⟩,pi⟩ with
     | none=>
      have HA4:=hid (show ans=false by rw[HA3.out,hf2];rfl)
      rw[hf2] at HF2
      clear hf2
      go_upto_region 8 with(first
      |(refine wpList_load_mid rfl _ _ rfl rb (ro+k*8+3) rfl [.int .i64 pt,.int .i64 pr,.int .i64 pi] _ HRX.out Tryz.underlying108 rfl (by kernel_rfl) ?_)
      |(refine store_at rfl _ _ _ rfl xb 108 #[.int .i64 t,.int .i64 r,.int .i64 q] #[.int .i64 pt,.int .i64 pr,.int .i64 pi] rfl rfl HX2.out (by kernel_rfl) rfl HPC.out ?_;rw[←HV.out]))
      go_wp2_with (first
       |(refine load_at rfl _ _ rfl xb _ _ _ rfl HX3.out Tryz.underlying108 rfl ?_ ?_;kernel_rfl)
       |(go_at_call 169;refine(HF2.out V HB3.out).mono ?_;rintro e w4 ⟨rfl,hB4⟩;have HX4:=hid ((hB4.block _ (lt_of_block HX3.out)).trans HX3.out);have HB4:=hid (HB3.out.trans (hB4.mono HB3.out.size));clear hB4;dsimp only[ixI]))
      go_ret
      exact⟨by rw[HA4.out];rfl,HB4.out⟩
     | some k2=>
      obtain⟨hk2,-⟩:=findP_lt hf2
      obtain⟨rb9,ro9,hA9,-,hrb9,hrange9⟩:=HR.out.range (fun _=>rfl) hk2
      cases hA9
      have l3:(0:Int)≤(k2:Int):=by omega
      have l4:(k2:Int)<(L.length:Int):=by omega
      have l5:¬(k2:Int)<0:=by omega
      obtain⟨d2,hd2⟩:∃d,d=(L.getD k2 plc0).dir:=⟨_,rfl⟩
      have HD2:=hid (fun W (hB:Below w00.heap.size w00 W)=>show W.cell? ⟨rb,ro+k2*8+7,none⟩=some (.bool d2) from by rw[hd2];exact(rangeB hrange9 hrb9 hB) 7 _ rfl)
      have HA4:=hid (show ans=(if d2=true then rootedF L f ⟨⟨pt,pr⟩,pi⟩ else false) by rw[HA3.out,hf2,hd2];rfl)
      rw[hf2] at HF2
      clear hf2 hd2 hrange9 hrb9
      cases d2 with
      |false=>
       have HA5:=hid (show ans=false by rw[HA4.out];rfl)
       go_upto_region 8 with(first
      |(refine wpList_load_mid rfl _ _ rfl rb (ro+k*8+3) rfl [.int .i64 pt,.int .i64 pr,.int .i64 pi] _ HRX.out Tryz.underlying108 rfl (by kernel_rfl) ?_)
      | (refine store_at rfl _ _ _ rfl xb 108 #[.int .i64 t,.int .i64 r,.int .i64 q] #[.int .i64 pt,.int .i64 pr,.int .i64 pi] rfl rfl HX2.out (by kernel_rfl) rfl HPC.out ?_;rw[←HV.out]))
       go_wp2_with (first
        |(refine load_at rfl _ _ rfl xb _ _ _ rfl HX3.out Tryz.underlying108 rfl ?_ ?_;kernel_rfl)
        |(go_at_call 169;refine(HF2.out V HB3.out).mono ?_;rintro e w4 ⟨rfl,hB4⟩;have HX4:=hid ((hB4.block _ (lt_of_block HX3.out)).trans HX3.out);have HB4:=hid (HB3.out.trans (hB4.mono HB3.out.size));clear hB4;dsimp only[ixI];have c7:=HD2.out w4 HB4.out))
       go_ret
       exact⟨by rw[HA5.out];rfl,HB4.out⟩
      |true=>
       have HA5:=hid (show ans=rootedF L f ⟨⟨pt,pr⟩,pi⟩ by rw[HA4.out];rfl)
       go_upto_region 8 with(first
      |(refine wpList_load_mid rfl _ _ rfl rb (ro+k*8+3) rfl [.int .i64 pt,.int .i64 pr,.int .i64 pi] _ HRX.out Tryz.underlying108 rfl (by kernel_rfl) ?_)
      | (refine store_at rfl _ _ _ rfl xb 108 #[.int .i64 t,.int .i64 r,.int .i64 q] #[.int .i64 pt,.int .i64 pr,.int .i64 pi] rfl rfl HX2.out (by kernel_rfl) rfl HPC.out ?_;rw[←HV.out]))
       go_wp2_with (first
        |(refine load_at rfl _ _ rfl xb _ _ _ rfl HX3.out Tryz.underlying108 rfl ?_ ?_;kernel_rfl)
        |(go_at_call 169;refine(HF2.out V HB3.out).mono ?_;rintro e w4 ⟨rfl,hB4⟩;have HX4:=hid ((hB4.block _ (lt_of_block HX3.out)).trans HX3.out);have HB4:=hid (HB3.out.trans (hB4.mono HB3.out.size));clear hB4;dsimp only[ixI];have c7:=HD2.out w4 HB4.out))
       go_roundw
       case rel=>exact⟨n+1,⟨⟨pt,pr⟩,pi⟩,by omega,by go_num,HX4,hid (by rw[HF.out];exact HA5.out),HB4⟩
       case measure=>(simp[RowKit.intOf];omega)
  ·obtain rfl:n=L.length+1:=by omega
   have i1:¬((L.length:Int)+1)≤(L.length:Int):=by omega
   have i2:¬(((L.length+1:Nat):Int))≤(L.length:Int):=by omega
   have HA2:=hid (show ans=false by rw[HA.out,Nat.sub_self];rfl)
   go_wp2
   go_ret
   exact⟨by rw[HA2.out];rfl,HBr.out⟩
def isSeen (N:List Plc) (V:List Gid) (p:Plc):Bool:=N.any fun q=>V.any (fun y=>y.eqb q.n) && rooted N q.n && within N q.n p.n
def seenP (L:List Plc) (V:List Gid):List Plc:=(rightP L).filter (isSeen (rightP L) V)
theorem seen15_any (L:List Plc) (A:Option Addr) (c:Nat) (V:List Gid) (vA:Option Addr) (vc:Nat) (S S2:Nat→Prop) (w00:World) (hl:L.length≤100000) (hv:V.length≤100000) (hnm:∀p∈L,p.name.size≤1000000) (hR:RowF w00 S A 8 plcL plc0 L) (hV:RowF w00 S2 vA 3 idL Gid.zero V):
  Calls Tryz.prog 171 #[.slice A L.length c,.slice vA V.length vc] w00 fun e w'=>∃A' c',e= .returned (.slice A' (seenP L V).length c')∧w'.ownsRow w00.heap.size 161 8 (.slice A' (seenP L V).length c') (seenP L V).length ((seenP L V).flatMap plcL)∧Below w00.heap.size w00 w':=by
 obtain⟨i0,hi,hz0,hz1,hz2⟩:=info_parts info_plc
 have HRI:=hid (right15_any L A c S w00 hl hnm hR)
 have HV0:=hid hV
 have hnl:=rightP_len L
 obtain⟨N,hN⟩:∃N,N=rightP L:=⟨_,rfl⟩
 obtain⟨R,hRd⟩:∃R,R=seenP L V:=⟨_,rfl⟩
 have HRR:=hid (show R=N.filter (isSeen N V) by rw[hRd,hN];rfl)
 rw[←hRd]
 rw[←hN] at HRI hnl
 clear hR hV hN hRd
 go_enter Tryz.func171,Tryz.ntmps171
 go_upto_region 4 with(go_at_call 195;refine HRI.out.mono ?_;rintro e w ⟨A1,c1,rfl,hown1,hB1⟩;have HN:=hid (ownN_rowF (f:=plcL) (z:=plc0) (fun _=>rfl) rfl hown1);have HB1:=hid hB1;have HV:=hid (HV0.out.below hB1);clear hown1 hB1)
 go_loopw [5,6] (fun o i wr=>∃(k:Nat) (A':Option Addr) (c' m:Nat) (M:List Plc),k≤N.length∧i= .int .i64 k∧o= .slice A' m c'∧m≤k∧Hid (m=M.length)∧Hid (M=(N.take k).filter (isSeen N V))∧Hid (wr.ownsRow w.heap.size 161 8 (.slice A' m c') m (M.flatMap plcL))∧Hid (Below w.heap.size w wr)) (fun o i _=>N.length-(RowKit.intOf i).toNat)
 case atStart=>exact⟨0,none,0,0,[],Nat.zero_le _,rfl,rfl,Nat.le_refl _,hid rfl,hid rfl,hid (World.ownsRow_nil w w.heap.size 161 8),hid (Below.refl _ _)⟩
 case round=>
  obtain⟨k,A',c',m,M,hk,rfl,rfl,hmk,HML,HM,HO,HBr⟩:=hrel
  by_cases hlt:k<N.length
  ·have i1:(0:Int)≤(k:Int):=by omega
   have i2:(k:Int)<(N.length:Int):=by omega
   obtain⟨rb,ro,hAe,-,hrb,hrange⟩:=HN.out.range (fun _=>rfl) hlt
   have hst:((N.take (k+1)).filter (isSeen N V))=M++(if isSeen N V (N.getD k plc0)=true then [N.getD k plc0] else []):=by
    rw[takeD_succ hlt plc0,List.filter_append,HM.out]
    congr 1
    generalize N.getD k plc0=p0
    cases e:isSeen N V p0<;>simp[List.filter,e]
   obtain⟨p,hp⟩:∃p,p=N.getD k plc0:=⟨_,rfl⟩
   rw[←hp] at hst hrange
   obtain⟨⟨⟨nt,nr⟩,ni⟩,⟨⟨pt,pr⟩,pi⟩,nm,dd⟩:=p
   have HRW:=hid (fun W (hB:Below w.heap.size w W)=>show W.rangeAt rb (ro+k*8) [.int .i64 nt,.int .i64 nr,.int .i64 ni,.int .i64 pt,.int .i64 pr,.int .i64 pi,.string nm,.bool dd] from rangeB hrange hrb hB)
   have HST:=hid hst
   have hsz:=HBr.out.size
   cases hAe
   clear hrange hrb hst hp
   generalize wr=w0 at *
   go_upto_region 8 with fail
   go_loopw [7,8] (fun h i wr=>∃(j:Nat) (b:Bool),j≤N.length∧i= .int .i64 j∧h= .bool b∧Hid (b=(N.take j).any (fun q:Plc=>V.any (fun y=>y.eqb q.n) && rooted N q.n && within N q.n ⟨⟨nt,nr⟩,ni⟩))∧Hid (Below w0.heap.size w0 wr)) (fun h i _=>N.length-(RowKit.intOf i).toNat)
   case atStart=>exact⟨0,false,Nat.zero_le _,rfl,rfl,hid rfl,hid (Below.refl _ _)⟩
   case round=>
    obtain⟨j,b,hj,rfl,rfl,HB,HBj⟩:=hrel
    have HBw:=hid (HBr.out.trans (HBj.out.mono hsz))
    have hszw:=HBw.out.size
    by_cases hjm:j<N.length
    ·have j1:(0:Int)≤(j:Int):=by omega
     have j2:(j:Int)<(N.length:Int):=by omega
     obtain⟨rb9,ro9,hA9,-,hrb9,hrange9⟩:=HN.out.range (fun _=>rfl) hjm
     have htk:(N.take (j+1)).any (fun q:Plc=>V.any (fun y=>y.eqb q.n) && rooted N q.n && within N q.n ⟨⟨nt,nr⟩,ni⟩)=((N.take j).any (fun q:Plc=>V.any (fun y=>y.eqb q.n) && rooted N q.n && within N q.n ⟨⟨nt,nr⟩,ni⟩) || (fun q:Plc=>V.any (fun y=>y.eqb q.n) && rooted N q.n && within N q.n ⟨⟨nt,nr⟩,ni⟩) (N.getD j plc0)):=by rw[takeD_succ hjm plc0,List.any_append];simp
     obtain⟨y,hy⟩:∃y,y=N.getD j plc0:=⟨_,rfl⟩
     rw[←hy] at htk hrange9
     obtain⟨⟨⟨t2,r2⟩,n2⟩,⟨⟨u2,v2⟩,i2⟩,m2,d2⟩:=y
     have hr2:w.rangeAt rb9 (ro9+j*8) [.int .i64 t2,.int .i64 r2,.int .i64 n2,.int .i64 u2,.int .i64 v2,.int .i64 i2,.string m2,.bool d2]:=hrange9
     obtain⟨b1,hb1⟩:∃b,b=V.any (fun y=>y.eqb ⟨⟨t2,r2⟩,n2⟩):=⟨_,rfl⟩
     obtain⟨b2,hb2⟩:∃b,b=rooted N ⟨⟨t2,r2⟩,n2⟩:=⟨_,rfl⟩
     obtain⟨b3,hb3⟩:∃b,b=within N ⟨⟨t2,r2⟩,n2⟩ ⟨⟨nt,nr⟩,ni⟩:=⟨_,rfl⟩
     have HTK:=hid (show(N.take (j+1)).any (fun q:Plc=>V.any (fun y=>y.eqb q.n) && rooted N q.n && within N q.n ⟨⟨nt,nr⟩,ni⟩)=(b || (b1 && b2 && b3)) by rw[htk,HB.out,hb1,hb2,hb3])
     have hrw2:=rangeB hr2 hrb9 HBw.out
     cases hA9
     have HRG:=hid (HRW.out wr HBw.out)
     have y0:=cell_regrown (w:=wr) (a:=⟨rb,ro+j*8,none⟩) (v:= .int .i64 t2) (hrw2 0 _ rfl)
     have y1:=cell_regrown (w:=wr) (a:=⟨rb,ro+j*8+1,none⟩) (v:= .int .i64 r2) (hrw2 1 _ rfl)
     have y2:=cell_regrown (w:=wr) (a:=⟨rb,ro+j*8+2,none⟩) (v:= .int .i64 n2) (hrw2 2 _ rfl)
     have x0:=cell_regrown (w:=wr) (a:=⟨rb,ro+k*8,none⟩) (v:= .int .i64 nt) (HRG.out 0 _ rfl)
     have x1:=cell_regrown (w:=wr) (a:=⟨rb,ro+k*8+1,none⟩) (v:= .int .i64 nr) (HRG.out 1 _ rfl)
     have x2:=cell_regrown (w:=wr) (a:=⟨rb,ro+k*8+2,none⟩) (v:= .int .i64 ni) (HRG.out 2 _ rfl)
     have HHI:=hid (fun W (hB:Below w.heap.size w W)=>show Calls Tryz.prog 173 #[.slice vA V.length vc,.agg #[.int .i64 t2,.int .i64 r2,.int .i64 n2]] W fun e w'=>e= .returned (.bool b1)∧Below W.heap.size W w' from by rw[hb1];exact hasid_any V vA vc ⟨⟨t2,r2⟩,n2⟩ S2 W (by omega) (HV.out.below hB))
     have HRO:=hid (fun W (hB:Below w.heap.size w W)=>show Calls Tryz.prog 196 #[.slice (some ⟨rb,ro,none⟩) N.length c1,.agg #[.int .i64 t2,.int .i64 r2,.int .i64 n2]] W fun e w'=>e= .returned (.bool b2)∧Below W.heap.size W w' from by rw[hb2];exact rooted_any N _ c1 t2 r2 n2 _ W (by omega) (HN.out.below hB))
     have HWI:=hid (fun W (hB:Below w.heap.size w W)=>show Calls Tryz.prog 168 #[.slice (some ⟨rb,ro,none⟩) N.length c1,.agg #[.int .i64 t2,.int .i64 r2,.int .i64 n2],.agg #[.int .i64 nt,.int .i64 nr,.int .i64 ni]] W fun e w'=>e= .returned (.bool b3)∧Below W.heap.size W w' from by rw[hb3];exact within_any N _ c1 t2 r2 n2 nt nr ni _ W (by omega) (HN.out.below hB))
     have cA:=fun d os=>Calls.regrown_of (HHI.out (grow (redrawn wr d) os) (HBw.out.trans ((below_regrown wr d os).mono hszw)))
     have cB:=fun d os=>Calls.regrown_of (HRO.out (grow (redrawn wr d) os) (HBw.out.trans ((below_regrown wr d os).mono hszw)))
     have cC:=fun d os=>Calls.regrown_of (HWI.out (grow (redrawn wr d) os) (HBw.out.trans ((below_regrown wr d os).mono hszw)))
     clear hr2 hrw2 hb1 hb2 hb3 hy htk hrange9 hrb9
     cases b1 with
     |false=>
      go_upto_region 10 with fail
      refine rqb ?_
      repeat(any_goals(first|go_big_quiet_step (with_reducible first|exact cA _ _|exact cB _ _|exact cC _ _)|quiet_step (with_reducible first|exact cA _ _|exact cB _ _|exact cC _ _)))
      refine qz fun wq hBq=> ?_
      have HBq:=hid (HBj.out.trans (hBq.mono HBj.out.size))
      go_wp2
      go_roundw
      case rel=>exact⟨j+1,b,by omega,by go_num,rfl,hid (by rw[HTK.out];simp),HBq⟩
      case measure=>(simp[RowKit.intOf];omega)
     | true=>
      cases b2 with
      |false=>
       go_upto_region 10 with fail
       refine rqb ?_
       repeat(any_goals(first|go_big_quiet_step (with_reducible first|exact cA _ _|exact cB _ _|exact cC _ _)|quiet_step (with_reducible first|exact cA _ _|exact cB _ _|exact cC _ _)))
       refine qz fun wq hBq=> ?_
       have HBq:=hid (HBj.out.trans (hBq.mono HBj.out.size))
       go_wp2
       go_roundw
       case rel=>exact⟨j+1,b,by omega,by go_num,rfl,hid (by rw[HTK.out];simp),HBq⟩
       case measure=>(simp[RowKit.intOf];omega)
      | true=>
       cases b3 with
       |false=>
        go_upto_region 10 with fail
        refine rqb ?_
        repeat(any_goals(first|go_big_quiet_step (with_reducible first|exact cA _ _|exact cB _ _|exact cC _ _)|quiet_step (with_reducible first|exact cA _ _|exact cB _ _|exact cC _ _)))
        refine qz fun wq hBq=> ?_
        have HBq:=hid (HBj.out.trans (hBq.mono HBj.out.size))
        go_wp2
        go_roundw
        case rel=>exact⟨j+1,b,by omega,by go_num,rfl,hid (by rw[HTK.out];simp),HBq⟩
        case measure=>(simp[RowKit.intOf];omega)
       |true=>
        go_upto_region 10 with fail
        refine rqb ?_
        repeat(any_goals(first|go_big_quiet_step (with_reducible first|exact cA _ _|exact cB _ _|exact cC _ _)|quiet_step (with_reducible first|exact cA _ _|exact cB _ _|exact cC _ _)))
        refine qz fun wq hBq=> ?_
        have HBq:=hid (HBj.out.trans (hBq.mono HBj.out.size))
        go_wp2
        go_roundw
        case rel=>exact⟨j+1,true,by omega,by go_num,rfl,hid (by rw[HTK.out];simp),HBq⟩
        case measure=>(simp[RowKit.intOf];omega)
    ·obtain rfl:j=N.length:=by omega
     have j2:¬(N.length:Int)<(N.length:Int):=by omega
     have HANY:=hid (show isSeen N V ⟨⟨⟨nt,nr⟩,ni⟩,⟨⟨pt,pr⟩,pi⟩,nm,dd⟩=b by unfold isSeen;have h9:=HB.out;rw[List.take_length] at h9;exact h9.symm)
     have HOj:=hid (HO.out.kept (gby_below (r:=none) HBj.out) (Classical.em _))
     cases b with
     |false=>
      have HS9:=hid (show((N.take (k+1)).filter (isSeen N V))=M by rw[HST.out,HANY.out];simp)
      go_wp2
      go_roundw
      case rel=>exact⟨k+1,A',c',m,M,by omega,by go_num,rfl,by omega,HML,hid HS9.out.symm,HOj,HBw⟩
      case measure=>(simp[RowKit.intOf];omega)
     | true=>
      have HS9:=hid (show((N.take (k+1)).filter (isSeen N V))=M++[⟨⟨⟨nt,nr⟩,ni⟩,⟨⟨pt,pr⟩,pi⟩,nm,dd⟩] by rw[HST.out,HANY.out];rfl)
      have HRX:=hid (HRW.out wr HBw.out)
      go_wp2_with (first
       |(refine wpList_load_mid rfl _ _ rfl rb (ro+k*8) rfl [.int .i64 nt,.int .i64 nr,.int .i64 ni,.int .i64 pt,.int .i64 pr,.int .i64 pi,.string nm,.bool dd] _ HRX.out Tryz.underlying161 rfl (by kernel_rfl) ?_)
       |(at_builtin;refine wpList_append_lies _ rfl _ _ 101 rfl w.heap.size 161 i0 (.agg #[.int .i64 0,.int .i64 0,.int .i64 0,.int .i64 0,.int .i64 0,.int .i64 0,.string ⟨#[]⟩,.bool false]) 8 72 Tryz.underlying101 hi hz0 hz1 hz2 rfl (by decide) (.slice A' m c') m _ rfl (by exact HOj.out.alloc _) ⟨wr.heap.size,0,none⟩ 1 1 [.int .i64 nt,.int .i64 nr,.int .i64 ni,.int .i64 pt,.int .i64 pr,.int .i64 pi,.string nm,.bool dd] rfl rfl (fun j y h=>cellsN wr [.int .i64 nt,.int .i64 nr,.int .i64 ni,.int .i64 pt,.int .i64 pr,.int .i64 pi,.string nm,.bool dd] 161 j y h) (oc_of (c:=#[.int .i64 nt,.int .i64 nr,.int .i64 ni,.int .i64 pt,.int .i64 pr,.int .i64 pi,.string nm,.bool dd]) rfl) (by decide) (by unfold maxLen;omega) (by omega) (by simp;omega) (wr.heap.size+1) (by simp) ?_;intro gq cap w5 hown hgrow ha hlt5;have HO5:=hid hown;have HB5:=hid ((HBw.out.alloc hszw _).grown hgrow (by simp;omega) (fun b hb=>(HOj.out.lt b hb).1));clear hown hgrow ha hlt5))
      go_roundw
      case rel=>exact⟨k+1,some ⟨gq,0,none⟩,cap,m+1,M++[⟨⟨⟨nt,nr⟩,ni⟩,⟨⟨pt,pr⟩,pi⟩,nm,dd⟩],by omega,by go_num,rfl,by omega,hid (by rw[List.length_append,←HML.out];rfl),hid HS9.out.symm,hid (by rw[List.flatMap_append];exact HO5.out),HB5⟩
      case measure=>(simp[RowKit.intOf];omega)
  ·obtain rfl:k=N.length:=by omega
   have i2:¬(N.length:Int)<(N.length:Int):=by omega
   have HM9:=hid (show M=R by rw[HRR.out];have h9:=HM.out;rw[List.take_length] at h9;exact h9)
   go_wp2
   go_ret
   refine⟨A',c',by rw[←HM9.out,←HML.out];rfl,?_,HB1.out.trans (HBr.out.mono HB1.out.size)⟩
   rw[←HM9.out,←HML.out];exact own_base HO.out HB1.out.size
end
section
section
open Go.RowKit
theorem cells_new (W:World) (xs:List Value) (e:TypeId) (j:Nat) (u:Value) (h:xs[j]? =some u):(W.alloc (.cells xs.toArray e)).cell? ((⟨W.heap.size,0,none⟩:Addr).add j)=some u:=by
 rw[add_zero']
 have:=World.cell?_alloc_mark W xs.toArray e (0,0) j
 rw[this];simpa using h
theorem info_u8:(Tryz.prog.info? 5).map (fun i=>(i.zero,i.size,i.bytes))=some (some (.int .u8 0),1,1):=by kernel_rfl
theorem one_cell (W:World) (u:Value) (e:TypeId) (j:Nat) (v:Value) (h:[u][j]? =some v):(W.alloc (.cells #[u] e)).cell? ((⟨W.heap.size,0,none⟩:Addr).add j)=some v:=cells_new W [u] e j v h
end
end
section
open Go.RowKit Go.Lib Go.Sort
set_option linter.unusedVariables false
attribute [local go_sem ↓] Go.wp_at_zero Go.wp_at_succ
def digs (n:Nat):List UInt8:=if n<10 then [UInt8.ofNat (48+n)] else digs (n / 10)++[UInt8.ofNat (48+n % 10)]
termination_by n
decreasing_by omega
theorem digs_low {n:Nat} (h:n<10):digs n=[UInt8.ofNat (48+n)]:=by rw[digs,if_pos h]
theorem digs_high {n:Nat} (h:¬n<10):digs n=digs (n / 10)++[UInt8.ofNat (48+n % 10)]:=by rw[digs,if_neg h]
theorem b8_of (n:Nat) (h:n<10):b8 (UInt8.ofNat (48+n))= .int .u8 (48+(n:Int)):=by
 unfold b8
 rw[UInt8.toNat_ofNat_of_lt' (show 48+n<256 by omega)]
 rfl
theorem pow_step {n v d:Nat} (h:v*10 ^ d≤n):v / 10*10 ^ (d+1)≤n:=by
 have h2:v / 10*10≤v:=Nat.div_mul_le_self v 10
 have h3:v / 10*10*10 ^ d≤v*10 ^ d:=Nat.mul_le_mul_right _ h2
 rw[Nat.pow_succ,Nat.mul_comm (10 ^ d) 10,←Nat.mul_assoc]
 omega
theorem pow_lt {n v d:Nat} (h:v*10 ^ d≤n) (hn:n<1000000000000000000) (hv:0<v):d<18:=by
 rcases Nat.lt_or_ge d 18 with h1|h1
 ·exact h1
 ·have h2:10 ^ 18≤10 ^ d:=Nat.pow_le_pow_right (by decide) h1
  have h3:1*10 ^ d≤v*10 ^ d:=Nat.mul_le_mul_right _ hv
  have h4:(10:Nat) ^ 18=1000000000000000000:=by decide
  omega
theorem digits_any (n:Nat) (w:World) (hn:n<1000000000000000000):
  Calls Tryz.prog 225 #[.int .i64 n] w fun e w'=>∃T:ByteArray,e= .returned (.string T)∧T.data.toList=digs n∧T.size≤20∧Below w.heap.size w w':=by
 obtain⟨i0,hi,hz0,hz1,hz2⟩:=info_parts info_u8
 have n0:¬(n:Int)<0:=by omega
 go_enter Tryz.func225,Tryz.ntmps225
 go_upto_region 4 with fail
 go_loopw [0,3] (fun a s wr=>∃(v:Nat) (T:ByteArray),a= .int .i64 v∧s= .string T∧v≤n∧T.size≤18∧Hid (v*10 ^ T.size≤n)∧Hid (digs n=digs v++T.data.toList)∧Hid (Below w.heap.size w wr)) (fun a s _=>(RowKit.intOf a).toNat)
 case atStart=>exact⟨n,⟨#[]⟩,rfl,rfl,Nat.le_refl _,Nat.zero_le _,hid (by show n*10 ^ 0≤n;omega),hid (by simp),hid (Below.refl _ _)⟩
 case round=>
  obtain⟨v,T,rfl,rfl,hv,hT,HP,HD,HB⟩:=hrel
  have hszr:=HB.out.size
  by_cases h9:v<10
  ·have n1:¬(v:Int)>9:=by omega
   have n2:¬(9:Int)<(v:Int):=by omega
   obtain⟨y,hy⟩:∃y,y=UInt8.ofNat (48+v):=⟨_,rfl⟩
   have HX:=hid (show Value.int .u8 (48+(v:Int))=b8 y by rw[hy,b8_of v h9])
   have HDL:=hid (show digs v=[y] by rw[hy];exact digs_low h9)
   clear hy
   go_upto_region 11 with(at_builtin;refine wpList_append_own _ rfl _ _ 23 rfl w.heap.size 5 i0 (.int .u8 0) 1 1 Tryz.underlying23 hi hz0 hz1 hz2 rfl (by decide) (.slice none 0 0) 0 [] rfl (World.ownsRow_nil _ _ _ _) ⟨wr.heap.size,0,none⟩ 1 1 [.int .u8 (48+(v:Int))] rfl rfl (one_cell _ _ _) (fun u hu=>by simp at hu;subst hu;rfl) (by unfold maxLen;omega) (by omega) (by simp;omega) ?_;intro v' w2 hown' hgrow _;have HO2:=hid hown';have HB2:=hid ((HB.out.alloc HB.out.size _).grown hgrow (by simp;omega) (fun b hb=>by cases hb));clear hown' hgrow)
   have hcv:=conv_own (P:=Tryz.prog) w2 23 9 5 w.heap.size v' 1 [y] Tryz.underlying23 Tryz.underlying5 Tryz.underlying9 (by have h:=HO2.out;rw[HX.out] at h;exact h)
   have HL:Hid (((⟨#[y]⟩:ByteArray)++T).size≤maxLen):=hid (by simp only[ByteArray.size_append];rw[show(⟨#[y]⟩:ByteArray).size=1 from rfl];unfold maxLen;omega)
   go_wp2
   go_ret
   refine⟨_,rfl,?_,?_,HB2.out⟩
   ·rw[HD.out,HDL.out];simp
   ·simp only[ByteArray.size_append];rw[show(⟨#[y]⟩:ByteArray).size=1 from rfl];omega
  ·have n1:(v:Int)>9:=by omega
   have n2:(9:Int)<(v:Int):=by omega
   have HT2:=hid (pow_lt HP.out hn (by omega))
   have hx1:IntKind.i64.wrap (48+(v:Int) % 10)=48+(v:Int) % 10:=by rw[IntKind.wrap_i64];omega
   have hx2:IntKind.u8.wrap (48+(v:Int) % 10)=48+(v:Int) % 10:=by rw[IntKind.wrap_u8];omega
   obtain⟨y,hy⟩:∃y,y=UInt8.ofNat (48+v % 10):=⟨_,rfl⟩
   have HX:=hid (show Value.int .u8 (48+(v:Int) % 10)=b8 y by rw[hy,b8_of (v % 10) (by omega)];rfl)
   have HDL:=hid (show digs v=digs (v / 10)++[y] by rw[hy];exact digs_high h9)
   clear hy
   go_upto_region 7 with(at_builtin;refine wpList_append_own _ rfl _ _ 23 rfl w.heap.size 5 i0 (.int .u8 0) 1 1 Tryz.underlying23 hi hz0 hz1 hz2 rfl (by decide) (.slice none 0 0) 0 [] rfl (World.ownsRow_nil _ _ _ _) ⟨wr.heap.size,0,none⟩ 1 1 [.int .u8 (48+(v:Int) % 10)] rfl rfl (one_cell _ _ _) (fun u hu=>by simp at hu;subst hu;rfl) (by unfold maxLen;omega) (by omega) (by simp;omega) ?_;intro v' w2 hown' hgrow _;have HO2:=hid hown';have HB2:=hid ((HB.out.alloc HB.out.size _).grown hgrow (by simp;omega) (fun b hb=>by cases hb));clear hown' hgrow)
   have hcv:=conv_own (P:=Tryz.prog) w2 23 9 5 w.heap.size v' 1 [y] Tryz.underlying23 Tryz.underlying5 Tryz.underlying9 (by have h:=HO2.out;rw[HX.out] at h;exact h)
   have HL:Hid (((⟨#[y]⟩:ByteArray)++T).size≤maxLen):=hid (by simp only[ByteArray.size_append];rw[show(⟨#[y]⟩:ByteArray).size=1 from rfl];unfold maxLen;omega)
   have HS1:=hid (show((⟨#[y]⟩:ByteArray)++T).size=T.size+1 by simp only[ByteArray.size_append];rw[show(⟨#[y]⟩:ByteArray).size=1 from rfl];omega)
   go_wp2
   go_roundw
   case rel=>exact⟨v / 10,_,by go_num,rfl,by omega,by rw[HS1.out];have:=HT2.out;omega,hid (by rw[HS1.out];exact pow_step HP.out),hid (by rw[HD.out,HDL.out];simp),HB2⟩
   case measure=>(simp[RowKit.intOf];omega)
end
section
open Go.RowKit Go.Lib Go.Sort
set_option linter.unusedVariables false
attribute [local go_sem ↓] Go.wp_at_zero Go.wp_at_succ
def digB (n:Nat):ByteArray:=⟨(digs n).toArray⟩
theorem digits_is (n:Nat) (w:World) (hn:n<1000000000000000000):Calls Tryz.prog 225 #[.int .i64 n] w fun e w'=>e= .returned (.string (digB n))∧Below w.heap.size w w':=by
 refine(digits_any n w hn).mono ?_
 rintro e w' ⟨T,rfl,hT,-,hB⟩
 refine⟨?_,hB⟩
 unfold digB
 rw[←hT,Array.toArray_toList]
theorem digB_size (n:Nat):n<1000000000000000000→(digB n).size≤18:=fun h=>by
 show((digs n).toArray).size≤18
 rw[List.size_toArray]
 have hlow:∀m,m<10→(digs m).length=1:=fun m hm=>by rw[digs_low hm];rfl
 have hs:∀(d:Nat),∀m,m<10 ^ (d+1)→(digs m).length≤d+1:=by
  intro d
  induction d with
  |zero=>intro m hm;rw[hlow m (by simpa using hm)];exact Nat.le_refl _
  | succ d ih=>
   intro m hm
   by_cases h9:m<10
   ·rw[hlow m h9];omega
   ·rw[digs_high h9,List.length_append]
    have:=ih (m / 10) (by rw[Nat.div_lt_iff_lt_mul (by decide)];rw[Nat.pow_succ] at hm;exact hm)
    simp only[List.length_singleton];omega
 exact hs 17 n h
def txtB (x:Gid):ByteArray:=if x.right=true then digB x.s.t.toNat++⟨#[46]⟩++digB x.s.r.toNat++⟨#[46]⟩++digB x.i.toNat else ⟨#[]⟩
theorem text5_any (t r i:Int) (w00:World):
  Calls Tryz.prog 221 #[.agg #[.int .i64 t,.int .i64 r,.int .i64 i]] w00 fun e w'=>e= .returned (.string (txtB ⟨⟨t,r⟩,i⟩))∧Below w00.heap.size w00 w':=by
 obtain⟨v,hv⟩:∃v,v=Gid.right ⟨⟨t,r⟩,i⟩:=⟨_,rfl⟩
 obtain⟨T,hT⟩:∃T,T=txtB ⟨⟨t,r⟩,i⟩:=⟨_,rfl⟩
 rw[←hT]
 cases v with
 | false=>
  have HT:=hid (show T=⟨#[]⟩ by rw[hT];unfold txtB;rw[if_neg (by rw[←hv];decide)])
  have hb0:Below w00.heap.size w00 (w00.alloc (.cells #[.int .i64 t,.int .i64 r,.int .i64 i] 108)):=(Below.refl _ _).alloc (Nat.le_refl _) _
  have HB0:=hid hb0
  have HX:=hid (heap_alloc_new w00 (.cells #[.int .i64 t,.int .i64 r,.int .i64 i] 108))
  have HRI:=hid (show Calls Tryz.prog 192 #[.agg #[.int .i64 t,.int .i64 r,.int .i64 i]] (w00.alloc (.cells #[.int .i64 t,.int .i64 r,.int .i64 i] 108)) fun e w'=>e= .returned (.bool false)∧Below (w00.alloc (.cells #[.int .i64 t,.int .i64 r,.int .i64 i] 108)).heap.size (w00.alloc (.cells #[.int .i64 t,.int .i64 r,.int .i64 i] 108)) w' from by rw[hv];exact refrightid_any t r i _)
  clear hv hT hb0
  go_enter Tryz.func221,Tryz.ntmps221
  go_upto_region 1 with fail
  generalize hW:w00.alloc (.cells #[.int .i64 t,.int .i64 r,.int .i64 i] 108)=w at *
  clear hW
  go_wp2_with (first
   |(refine load_at rfl _ _ rfl w00.heap.size _ _ _ rfl HX.out Tryz.underlying108 rfl ?_ ?_;kernel_rfl)
   |(go_at_call 192;refine HRI.out.mono ?_;rintro e w2 ⟨rfl,hB2⟩;have HB2:=hid (HB0.out.trans (hB2.mono HB0.out.size));clear hB2))
  go_ret
  exact⟨by rw[HT.out];rfl,HB2.out⟩
 | true=>
  have hv2:=hv.symm
  simp only[Gid.right,Gst.right,Bool.and_eq_true,decide_eq_true_eq] at hv2
  obtain⟨⟨⟨⟨⟨ht1,ht2⟩,hr1⟩,hr2⟩,hi1⟩,hi2⟩:=hv2
  obtain⟨tn,rfl⟩:∃n:Nat,t=(n:Int):=⟨t.toNat,by omega⟩
  obtain⟨rn,rfl⟩:∃n:Nat,r=(n:Int):=⟨r.toNat,by omega⟩
  obtain⟨jn,rfl⟩:∃n:Nat,i=(n:Int):=⟨i.toNat,by omega⟩
  obtain⟨a,ha⟩:∃a,a=digB tn:=⟨_,rfl⟩
  obtain⟨b,hb⟩:∃a,a=digB rn:=⟨_,rfl⟩
  obtain⟨c,hc⟩:∃a,a=digB jn:=⟨_,rfl⟩
  have HT:=hid (show T=a++⟨#[46]⟩++b++⟨#[46]⟩++c by rw[hT];unfold txtB;rw[if_pos hv.symm,ha,hb,hc];rfl)
  have hb0:Below w00.heap.size w00 (w00.alloc (.cells #[.int .i64 (tn:Int),.int .i64 (rn:Int),.int .i64 (jn:Int)] 108)):=(Below.refl _ _).alloc (Nat.le_refl _) _
  have HB0:=hid hb0
  have HX:=hid (heap_alloc_new w00 (.cells #[.int .i64 (tn:Int),.int .i64 (rn:Int),.int .i64 (jn:Int)] 108))
  have sa:a.size≤18:=by rw[ha];exact digB_size tn (by omega)
  have sb:b.size≤18:=by rw[hb];exact digB_size rn (by omega)
  have sc:c.size≤18:=by rw[hc];exact digB_size jn (by omega)
  have HRI:=hid (show Calls Tryz.prog 192 #[.agg #[.int .i64 (tn:Int),.int .i64 (rn:Int),.int .i64 (jn:Int)]] (w00.alloc (.cells #[.int .i64 (tn:Int),.int .i64 (rn:Int),.int .i64 (jn:Int)] 108)) fun e w'=>e= .returned (.bool true)∧Below (w00.alloc (.cells #[.int .i64 (tn:Int),.int .i64 (rn:Int),.int .i64 (jn:Int)] 108)).heap.size (w00.alloc (.cells #[.int .i64 (tn:Int),.int .i64 (rn:Int),.int .i64 (jn:Int)] 108)) w' from by rw[hv];exact refrightid_any tn rn jn _)
  have HDA:=hid (fun W=>show Calls Tryz.prog 225 #[.int .i64 tn] W fun e w'=>e= .returned (.string a)∧Below W.heap.size W w' from by rw[ha];exact digits_is tn W (by omega))
  have HDB:=hid (fun W=>show Calls Tryz.prog 225 #[.int .i64 rn] W fun e w'=>e= .returned (.string b)∧Below W.heap.size W w' from by rw[hb];exact digits_is rn W (by omega))
  have HDC:=hid (fun W=>show Calls Tryz.prog 225 #[.int .i64 jn] W fun e w'=>e= .returned (.string c)∧Below W.heap.size W w' from by rw[hc];exact digits_is jn W (by omega))
  clear hv hT hb0 ha hb hc
  go_enter Tryz.func221,Tryz.ntmps221
  go_upto_region 1 with fail
  generalize hW:w00.alloc (.cells #[.int .i64 (tn:Int),.int .i64 (rn:Int),.int .i64 (jn:Int)] 108)=w at *
  clear hW
  go_upto_region 3 with(first
   |(refine load_at rfl _ _ rfl w00.heap.size _ _ _ rfl HX.out Tryz.underlying108 rfl ?_ ?_;kernel_rfl)
   |(go_at_call 192;refine HRI.out.mono ?_;rintro e w2 ⟨rfl,hB2⟩;have HB2:=hid (HB0.out.trans (hB2.mono HB0.out.size));have HX2:=hid ((hB2.block _ (lt_of_block HX.out)).trans HX.out);clear hB2))
  have y0:=cell_regrown (w:=w2) (a:=⟨w00.heap.size,0,none⟩) (v:= .int .i64 (tn:Int)) (crw HX2.out)
  have y1:=cell_regrown (w:=w2) (a:=⟨w00.heap.size,1,none⟩) (v:= .int .i64 (rn:Int)) (crw HX2.out)
  have y2:=cell_regrown (w:=w2) (a:=⟨w00.heap.size,2,none⟩) (v:= .int .i64 (jn:Int)) (crw HX2.out)
  have cA:=fun d os=>Calls.regrown_of (HDA.out (grow (redrawn w2 d) os))
  have cB:=fun d os=>Calls.regrown_of (HDB.out (grow (redrawn w2 d) os))
  have cC:=fun d os=>Calls.regrown_of (HDC.out (grow (redrawn w2 d) os))
  refine rqb ?_
  repeat(any_goals(first|go_big_quiet_step (with_reducible first|exact cA _ _|exact cB _ _|exact cC _ _)|quiet_step (with_reducible first|exact cA _ _|exact cB _ _|exact cC _ _)))
  refine qz fun wq hBq=> ?_
  go_wp2
  go_ret
  exact⟨by rw[HT.out];rfl,HB2.out.trans (hBq.mono HB2.out.size)⟩
theorem txtB_size (x:Gid):(txtB x).size≤60:=by
 unfold txtB
 split
 ·rename_i h
  simp only[Gid.right,Gst.right,Bool.and_eq_true,decide_eq_true_eq] at h
  have h1:=digB_size x.s.t.toNat (by omega)
  have h2:=digB_size x.s.r.toNat (by omega)
  have h3:=digB_size x.i.toNat (by omega)
  simp only[ByteArray.size_append]
  rw[show(⟨#[46]⟩:ByteArray).size=1 from rfl]
  omega
 ·exact Nat.zero_le _
def clashN (s:ByteArray) (x:Gid):ByteArray:=if nameB s=true then (if (txtB x).size=0 then ⟨#[]⟩ else s++⟨#[126]⟩++txtB x) else ⟨#[]⟩
theorem clash_any (s:ByteArray) (t r i:Int) (w00:World) (hs:s.size≤1000000):
  Calls Tryz.prog 213 #[.string s,.agg #[.int .i64 t,.int .i64 r,.int .i64 i]] w00 fun e w'=>∃z,e= .returned (.tuple #[.string (clashN s ⟨⟨t,r⟩,i⟩),.int .i64 z])∧Below w00.heap.size w00 w':=by
 obtain⟨v,hv⟩:∃v,v=nameB s:=⟨_,rfl⟩
 obtain⟨X,hX⟩:∃T,T=txtB ⟨⟨t,r⟩,i⟩:=⟨_,rfl⟩
 obtain⟨T,hT⟩:∃T,T=clashN s ⟨⟨t,r⟩,i⟩:=⟨_,rfl⟩
 rw[←hT]
 have HT:=hid (show T=if v=true then (if X.size=0 then ⟨#[]⟩ else s++⟨#[126]⟩++X) else ⟨#[]⟩ by rw[hT,hv,hX];rfl)
 have hb0:Below w00.heap.size w00 (w00.alloc (.cells #[.int .i64 t,.int .i64 r,.int .i64 i] 108)):=(Below.refl _ _).alloc (Nat.le_refl _) _
 have HB0:=hid hb0
 have HX:=hid (heap_alloc_new w00 (.cells #[.int .i64 t,.int .i64 r,.int .i64 i] 108))
 have HNM:=hid (fun W=>show Calls Tryz.prog 159 #[.string s] W fun e w'=>e= .returned (.bool v)∧w'=W from by rw[hv];exact refname_any s W (by omega))
 have HTX:=hid (fun W=>show Calls Tryz.prog 221 #[.agg #[.int .i64 t,.int .i64 r,.int .i64 i]] W fun e w'=>e= .returned (.string X)∧Below W.heap.size W w' from by rw[hX];exact text5_any t r i W)
 have sX:X.size≤60:=by rw[hX];exact txtB_size _
 clear hv hX hT hb0
 go_enter Tryz.func213,Tryz.ntmps213
 go_upto_region 1 with fail
 generalize hW:w00.alloc (.cells #[.int .i64 t,.int .i64 r,.int .i64 i] 108)=w at *
 clear hW
 cases v with
 |false=>
  have HT2:=hid (show T=⟨#[]⟩ by rw[HT.out];rfl)
  go_wp2_with (go_at_call 159;refine(HNM.out w).mono ?_;rintro e w2 ⟨rfl,rfl⟩)
  go_ret2
  exact⟨_,by rw[HT2.out];rfl,HB0.out⟩
 | true=>
  by_cases h0:X.size=0
  ·have HT2:=hid (show T=⟨#[]⟩ by rw[HT.out,if_pos rfl,if_pos h0])
   have hq:X=⟨#[]⟩:=bs_nil.1 (by apply List.eq_nil_of_length_eq_zero;simpa using h0)
   subst hq
   go_wp2_with (first
    |(go_at_call 159;refine(HNM.out w).mono ?_;rintro e w2 ⟨rfl,rfl⟩)
    |(refine load_at rfl _ _ rfl w00.heap.size _ _ _ rfl HX.out Tryz.underlying108 rfl ?_ ?_;kernel_rfl)
    |(go_at_call 221;refine(HTX.out _).mono ?_;rintro e w3 ⟨rfl,hB3⟩;have HB3:=hid (HB0.out.trans (hB3.mono HB0.out.size));clear hB3))
   go_ret2
   exact⟨_,by rw[HT2.out];rfl,HB3.out⟩
  ·have HT2:=hid (show T=s++⟨#[126]⟩++X by rw[HT.out,if_pos rfl,if_neg h0])
   have hne:X.toList≠[]:=fun e=>h0 (by rw[ByteArray.toList_eq] at e;rw[show X=⟨#[]⟩ from bs_nil.1 e];rfl)
   have hq:(X.toList == [])=false:=by rw[beq_eq_false_iff_ne];exact hne
   go_wp2_with (first
    |(go_at_call 159;refine(HNM.out w).mono ?_;rintro e w2 ⟨rfl,rfl⟩)
    |(refine load_at rfl _ _ rfl w00.heap.size _ _ _ rfl HX.out Tryz.underlying108 rfl ?_ ?_;kernel_rfl)
    |(go_at_call 221;refine(HTX.out _).mono ?_;rintro e w3 ⟨rfl,hB3⟩;have HB3:=hid (HB0.out.trans (hB3.mono HB0.out.size));clear hB3))
   go_ret2
   exact⟨_,by rw[HT2.out];rfl,HB3.out⟩
end
end Go.Proofs.YtkhmicndehlneaaGreatDoor
