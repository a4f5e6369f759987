/- Part 18 of the walks and plain laws that this claim uses, joined. Conditions: as each theorem states. -/
import Derived.Test.YtkhmicndehlneaaGreatDoorYtq
namespace Go.Proofs.YtkhmicndehlneaaGreatDoor
set_option maxRecDepth 100000
set_option maxHeartbeats 16000000
section
open Go.RowKit Go.Lib Go.Sort
set_option linter.unusedVariables false
def pcs:Nat→ByteArray→List ByteArray
 |0,_=>[]
 |n+1,T=>if T.size=0 then [] else match rfL T.data.toList with
  |none=>[]
  |some (_,k)=>T.extract 0 k::pcs n (T.extract k T.size)
def pcsT (T:ByteArray):List ByteArray:=pcs T.size T
theorem pcs_fuel:∀(n:Nat) (T:ByteArray),T.size≤n→pcs n T=pcs T.size T
  |0,T,h=>by rw[show T.size=0 by omega]
  | n + 1,T,h=>by
    by_cases h0:T.size=0
    · rw[h0];simp[pcs,h0]
    · obtain⟨m,hm⟩:∃m,T.size=m+1:=⟨T.size-1,by omega⟩
      have hne : T.data.toList ≠ [] := fun e => by have:T.data.toList.length=T.size:=by simp
                                                   rw[e] at this;simp at this;omega
      have hL:pcs (m+1) T=pcs T.size T:=by rw[hm]
      rw[←hL]
      simp only[pcs,if_neg h0]
      cases hr:rfL T.data.toList with
      |none=>rfl
      | some p=>
        obtain⟨cp,k⟩:=p
        have hk:=rfL_width hne hr
        have hx:(T.extract k T.size).size=T.size-k:=by rw[ByteArray.size_extract];omega
        simp only
        rw[pcs_fuel n _ (by omega),←pcs_fuel m _ (by omega)]
theorem pcs_step {T:ByteArray} {cp k:Nat} (h0:0<T.size) (hr:rfL T.data.toList=some (cp,k)) (hk:0<k):pcsT T=T.extract 0 k::pcsT (T.extract k T.size):=by
 obtain⟨m,hm⟩:∃m,T.size=m+1:=⟨T.size-1,by omega⟩
 have hx:(T.extract k T.size).size≤m:=by rw[ByteArray.size_extract];omega
 unfold pcsT
 rw[←pcs_fuel m _ hx]
 conv=>lhs;rw[hm]
 simp only[pcs,if_neg (show ¬T.size=0 by omega),hr]
theorem pcs_nil:pcsT ⟨#[]⟩=[]:=rfl
def SpX (r:Option Nat) (s:ByteArray) (w:World) (e:Ending) (w':World):Prop:=match r with
 |none=>e= .returned (.tuple #[.slice none 0 0,.int .i64 60])∧Below w.heap.size w w'
 |some m=>∃A c,m=(pcsT s).length∧e= .returned (.tuple #[.slice A m c,.int .i64 0])∧w'.ownsRow w.heap.size 9 1 (.slice A m c) m ((pcsT s).flatMap strL)∧Below w.heap.size w w'
theorem split6_pcs (s:ByteArray) (w:World) (hs:s.size≤1000000):
  Calls Tryz.prog 193 #[.string s] w fun e w'=>SpX (cnt s.data.toList) s w e w':=by
 obtain⟨R,hR⟩:∃R,R=cnt s.data.toList:=⟨_,rfl⟩
 rw[←hR]
 have HR:=hid hR
 clear hR
 obtain⟨i0,hi,hz0,hz1,hz2⟩:=info_parts infoStr
 go_enter Tryz.func193,Tryz.ntmps193
 go_wp2
 go_loopw [0,4] (fun t v wr=>∃T:ByteArray,∃(A:Option Addr) (m c:Nat),∃ps:List ByteArray,t= .string T∧v= .slice A m c∧T.size+m≤s.size∧Hid (pcsT s=ps++pcsT T)∧Hid (m=ps.length)∧Hid (wr.ownsRow w.heap.size 9 1 (.slice A m c) m (ps.flatMap strL))∧Hid (Below w.heap.size w wr)∧Hid (R=cntAdd m (cnt T.data.toList))) (fun t _ _=>match t with| .string T=>T.size|_=>0)
 case atStart=>exact⟨s,none,0,0,[],rfl,rfl,by omega,hid rfl,hid rfl,hid (World.ownsRow_nil w w.heap.size 9 1),hid (Below.refl _ _),by
  show R=_
  rw[HR.out]
  cases cnt s.data.toList<;>rfl⟩
 case round=>
  obtain⟨T,A,m,c,ps,rfl,rfl,hm,HP,HM,HO,HB,HC⟩:=hrel
  have hTl:T.data.toList.length=T.size:=by simp
  by_cases h0:0<T.size
  ·have hne:T.data.toList≠[]:=fun e=>by rw[e] at hTl;simp at hTl;omega
   have hF:=first_any T wr (by omega) h0
   cases hr:rfL T.data.toList with
   |none=>
    rw[hr] at hF
    obtain rfl:R=none:=by rw[HC.out,cntAdd_none hne m hr]
    have HF:Hid (Calls Tryz.prog 212 #[.string T] wr fun e w'=>e= .returned (.tuple #[.int .i64 0,.int .i64 0,.bool false])∧w'=wr):=hF
    clear hF hr hne hTl HO
    go_wp2_with fail
    refine HF.out.mono ?_
    rintro e w1 ⟨rfl,rfl⟩
    go_wp2
    go_ret2
    exact⟨rfl,HB.out⟩
   | some p=>
    obtain⟨cp,k⟩:=p
    rw[hr] at hF
    have hk:=rfL_width hne hr
    rw[hTl] at hk
    have HP2:Hid (pcsT s=(ps++[T.extract 0 k])++pcsT (T.extract k T.size)):=hid (by rw[HP.out,pcs_step h0 hr (by omega),List.append_assoc];rfl)
    have HC2:Hid (R=cntAdd (m+1) (cnt (T.extract k T.size).data.toList)):=by
     show R=_
     rw[HC.out,cntAdd_step hne m hr,drop_ext]
    have HF:Hid (Calls Tryz.prog 212 #[.string T] wr fun e w'=>e= .returned (.tuple #[.int .i64 (cp:Nat),.int .i64 (k:Nat),.bool true])∧w'=wr):=hF
    obtain⟨hk1,hk2⟩:=hk
    have b1:(0:Int)≤(k:Int):=by omega
    have b2:(k:Int)≤(T.size:Int):=by omega
    have hsz:=HB.out.size
    have hex:(T.extract k T.size).size=T.size-k:=by rw[ByteArray.size_extract];omega
    have HEX:=hid hex
    clear hF hr hne hTl hex
    go_wp2_with fail
    refine HF.out.mono ?_
    rintro e w1 ⟨rfl,rfl⟩
    have hO:=HO.out
    go_wp2_with (at_builtin;refine wpList_append_own _ rfl _ _ 60 rfl w.heap.size 9 i0 (.string ⟨#[]⟩) 1 16 Tryz.underlying60 hi hz0 hz1 hz2 rfl (by decide) _ _ _ rfl (by exact hO.alloc _) ⟨w1.heap.size,0,none⟩ 1 1 [.string (T.extract 0 k)] rfl rfl (by exact cell1 _ _ _) (fun u hu=>by simp at hu;subst hu;rfl) (by unfold maxLen;omega) (by omega) (by simp;omega) ?_;intro v' w3 hown' hgrow _)
    obtain⟨A',c',rfl⟩:∃A' c',v'=Value.slice A' (m+1) c':=by
     rcases hown'.2 with⟨rfl,h9⟩|⟨g,cap,cur,rfl,_⟩
     ·exact⟨_,_,by rw[show m+1=0 from h9]⟩
     ·exact⟨_,_,rfl⟩
    go_roundw
    case rel=>exact⟨_,A',m+1,c',ps++[T.extract 0 k],rfl,rfl,by rw[HEX.out];omega,HP2,hid (by rw[List.length_append,←HM.out];rfl),hid (by rw[List.flatMap_append];exact hown'),hid ((HB.out.alloc (by omega) _).grown hgrow (by simp;omega) (fun i h=>(hO.lt i h).1)),HC2⟩
    case measure=>show(T.extract k T.size).size<T.size;rw[HEX.out];omega
  ·have he:T.data.toList=[]:=by
    cases e:T.data.toList with
    |nil=>rfl
    |cons a l=>rw[e] at hTl;simp at hTl;omega
   obtain rfl:R=some m:=by rw[HC.out,he,cnt_nil];show some (0+m)=_;rw[Nat.zero_add]
   have hTs:T.size=0:=by omega
   obtain rfl:T=⟨#[]⟩:=bs_nil.1 he
   clear hTl he hTs
   go_wp2
   go_ret2
   have hps:pcsT s=ps:=by rw[HP.out,pcs_nil,List.append_nil]
   exact⟨A,c,by rw[hps];exact HM.out,rfl,by rw[hps];exact HO.out,HB.out⟩
end
section
open Go.RowKit Go.Lib Go.Sort
set_option linter.unusedVariables false
attribute [local go_sem ↓] Go.wp_at_zero Go.wp_at_succ
def findP (L:List Plc) (x:Gid):Option Nat:=L.findIdx? fun y=>y.n.eqb x
def withinF (L:List Plc) (up:Gid):Nat→Gid→Bool
 |0,_=>true
 |f+1,x=>if x.eqb up=true then true else match findP L x with
  |none=>false
  |some k=>withinF L up f (L.getD k plc0).p
def within (L:List Plc) (x up:Gid):Bool:=withinF L up (L.length+1) x
theorem findP_lt {L:List Plc} {x:Gid} {k:Nat} (h:findP L x=some k):k<L.length∧(L.getD k plc0).n=x:=by
 unfold findP at h
 rw[List.findIdx?_eq_some_iff_getElem] at h
 obtain⟨hk,h1,-⟩:=h
 refine⟨hk,?_⟩
 rw[List.getD_eq_getElem?_getD,List.getElem?_eq_getElem hk]
 exact Gid.eqb_iff.1 h1
theorem within_any (L:List Plc) (A:Option Addr) (c:Nat) (xt xr xi ut ur ui:Int) (S:Nat→Prop) (w00:World) (hl:L.length≤100000) (hR:RowF w00 S A 8 plcL plc0 L):
  Calls Tryz.prog 168 #[.slice A L.length c,.agg #[.int .i64 xt,.int .i64 xr,.int .i64 xi],.agg #[.int .i64 ut,.int .i64 ur,.int .i64 ui]] w00 fun e w'=>e= .returned (.bool (within L ⟨⟨xt,xr⟩,xi⟩ ⟨⟨ut,ur⟩,ui⟩))∧Below w00.heap.size w00 w':=by
 obtain⟨ans,hans⟩:∃b,b=within L ⟨⟨xt,xr⟩,xi⟩ ⟨⟨ut,ur⟩,ui⟩:=⟨_,rfl⟩
 rw[←hans]
 have HANS:=hid hans
 have hb0:Below w00.heap.size w00 ((w00.alloc (.cells #[.int .i64 xt,.int .i64 xr,.int .i64 xi] 108)).alloc (.cells #[.int .i64 ut,.int .i64 ur,.int .i64 ui] 108)):=((Below.refl _ _).alloc (Nat.le_refl _) _).alloc (by simp) _
 have hc1:=heap_alloc_new w00 (.cells #[.int .i64 xt,.int .i64 xr,.int .i64 xi] 108)
 have hc2:((w00.alloc (.cells #[.int .i64 xt,.int .i64 xr,.int .i64 xi] 108)).alloc (.cells #[.int .i64 ut,.int .i64 ur,.int .i64 ui] 108)).heap[w00.heap.size+1]? =some (.cells #[.int .i64 ut,.int .i64 ur,.int .i64 ui] 108 (0,0)):=heap_alloc_newC _ _ (by simp)
 have hc3:((w00.alloc (.cells #[.int .i64 xt,.int .i64 xr,.int .i64 xi] 108)).alloc (.cells #[.int .i64 ut,.int .i64 ur,.int .i64 ui] 108)).heap[w00.heap.size]? =some (.cells #[.int .i64 xt,.int .i64 xr,.int .i64 xi] 108 (0,0)):=(Below.heap_alloc _ _ _ (by simp)).trans hc1
 have HB0:=hid hb0
 have HX0:=hid hc3
 have HU0:=hid hc2
 have HR:=hid hR
 clear hR hans hb0 hc1 hc2 hc3
 go_enter Tryz.func168,Tryz.ntmps168
 go_upto_region 2 with fail
 generalize hW:(w00.alloc (.cells #[.int .i64 xt,.int .i64 xr,.int .i64 xi] 108)).alloc (.cells #[.int .i64 ut,.int .i64 ur,.int .i64 ui] 108)=w at *
 clear hW
 go_loopw [7] (fun i wr=>∃(n:Nat) (x:Gid),n≤L.length+1∧i= .int .i64 n∧Hid (wr.heap[w00.heap.size]? =some (.cells (idL x).toArray 108 (0,0)))∧Hid (wr.heap[w00.heap.size+1]? =some (.cells #[.int .i64 ut,.int .i64 ur,.int .i64 ui] 108 (0,0)))∧Hid (ans=withinF L ⟨⟨ut,ur⟩,ui⟩ (L.length+1-n) x)∧Hid (Below w00.heap.size w00 wr)) (fun i _=>L.length+1-(RowKit.intOf i).toNat)
 case atStart=>exact⟨0,⟨⟨xt,xr⟩,xi⟩,Nat.zero_le _,rfl,HX0,HU0,hid (by rw[HANS.out];rfl),HB0⟩
 case round=>
  obtain⟨n,x,hn,rfl,HX,HU,HA,HBr⟩:=hrel
  by_cases hlt:n≤L.length
  ·have i1:(n:Int)≤(L.length:Int):=by omega
   obtain⟨f,hf⟩:∃f,L.length+1-n=f+1:=⟨L.length-n,by omega⟩
   have HF:=hid (show L.length+1-(n+1)=f by omega)
   rw[hf] at HA
   obtain⟨⟨t,r⟩,q⟩:=x
   have HX:Hid (wr.heap[w00.heap.size]? =some (.cells #[.int .i64 t,.int .i64 r,.int .i64 q] 108 (0,0))):=HX
   obtain⟨b,hb⟩:∃b,b=Gid.eqb ⟨⟨t,r⟩,q⟩ ⟨⟨ut,ur⟩,ui⟩:=⟨_,rfl⟩
   have q1:=eq_id t r q ut ur ui b hb.symm
   have HFD:=hid (show Calls Tryz.prog 169 #[.slice A L.length c,.agg #[.int .i64 t,.int .i64 r,.int .i64 q]] wr fun e w'=>e= .returned (.int .i64 (ixI (findP L ⟨⟨t,r⟩,q⟩)))∧Below wr.heap.size wr w' from findplc_any L A c ⟨⟨t,r⟩,q⟩ S wr (by omega) (HR.out.below HBr.out))
   cases b with
   | true=>
    have HA2:=hid (show ans=true by rw[HA.out,withinF,if_pos hb.symm])
    clear hb hf
    go_wp2_with (first
     |(refine load_at rfl _ _ rfl w00.heap.size _ _ _ rfl HX.out Tryz.underlying108 rfl ?_ ?_;kernel_rfl)
     |(refine load_at rfl _ _ rfl (w00.heap.size+1) _ _ _ rfl HU.out Tryz.underlying108 rfl ?_ ?_;kernel_rfl))
    go_ret
    exact⟨by rw[HA2.out];rfl,HBr.out⟩
   | false=>
    cases hfd:findP L ⟨⟨t,r⟩,q⟩ with
    | none=>
     have HA2:=hid (show ans=false by rw[HA.out,withinF,if_neg (by rw[←hb];decide),hfd])
     rw[hfd] at HFD
     clear hb hf hfd
     go_wp2_with (first
      |(refine load_at rfl _ _ rfl w00.heap.size _ _ _ rfl HX.out Tryz.underlying108 rfl ?_ ?_;kernel_rfl)
      |(refine load_at rfl _ _ rfl (w00.heap.size+1) _ _ _ rfl HU.out Tryz.underlying108 rfl ?_ ?_;kernel_rfl)
      |(go_at_call 169;refine HFD.out.mono ?_;rintro e w2 ⟨rfl,hB2⟩;have HB2:=hid hB2;clear hB2;dsimp only[ixI]))
     go_ret
     exact⟨by rw[HA2.out];rfl,HBr.out.trans (HB2.out.mono HBr.out.size)⟩
    | some k=>
     obtain⟨hk,-⟩:=findP_lt hfd
     have HA2:=hid (show ans=withinF L ⟨⟨ut,ur⟩,ui⟩ f (L.getD k plc0).p by rw[HA.out,withinF,if_neg (by rw[←hb];decide),hfd])
     rw[hfd] at HFD
     obtain⟨rb,ro,rfl,-,hrb,hrange⟩:=HR.out.range (fun _=>rfl) hk
     have i3:(0:Int)≤(k:Int):=by omega
     have i4:(k:Int)<(L.length:Int):=by omega
     have i5:¬(k:Int)<0:=by omega
     generalize L.getD k plc0=p at *
     obtain⟨⟨⟨nt,nr⟩,ni⟩,⟨⟨pt,pr⟩,pi⟩,nm,dd⟩:=p
     have HRW:=hid (fun W (hB:Below w00.heap.size w00 W)=>show W.rangeAt rb (ro+k*8+3) [.int .i64 pt,.int .i64 pr,.int .i64 pi] from range_mid (pre:=[.int .i64 nt,.int .i64 nr,.int .i64 ni]) (post:=[.string nm,.bool dd]) (rangeB hrange hrb hB))
     have HPC:=hid (show(#[.int .i64 pt,.int .i64 pr,.int .i64 pi]:Array Value).toList.all (·.oneCell')=true from rfl)
     clear hb hf hfd hrange hrb
     go_upto_region 9 with(first
      |(refine load_at rfl _ _ rfl w00.heap.size _ _ _ rfl HX.out Tryz.underlying108 rfl ?_ ?_;kernel_rfl)
      |(refine load_at rfl _ _ rfl (w00.heap.size+1) _ _ _ rfl HU.out Tryz.underlying108 rfl ?_ ?_;kernel_rfl)
      |(go_at_call 169;refine HFD.out.mono ?_;rintro e w2 ⟨rfl,hB2⟩;have HX2:=hid ((hB2.block _ (lt_of_block HX.out)).trans HX.out);have HU2:=hid ((hB2.block _ (lt_of_block HU.out)).trans HU.out);have HB2:=hid (HBr.out.trans (hB2.mono HBr.out.size));have HRX:=hid (HRW.out w2 HB2.out);clear hB2;dsimp only[ixI]))
     obtain⟨V,hV⟩:∃V,V=w2.setRow w00.heap.size #[.int .i64 pt,.int .i64 pr,.int .i64 pi]:=⟨_,rfl⟩
     have HV:=hid hV
     have HX3:=hid (show V.heap[w00.heap.size]? =some (.cells #[.int .i64 pt,.int .i64 pr,.int .i64 pi] 108 (0,0)) by rw[hV];exact heap_setRow_same _ HX2.out)
     have HU3:=hid (show V.heap[w00.heap.size+1]? =some (.cells #[.int .i64 ut,.int .i64 ur,.int .i64 ui] 108 (0,0)) by rw[hV,setRow_other _ _ _ _ (by omega)];exact HU2.out)
     have HB3:=hid (show Below w00.heap.size w00 V by rw[hV];exact Below.setRow' HB2.out (Nat.le_refl _) _)
     clear hV
     go_wp2_with (first
      |(refine wpList_load_mid rfl _ _ rfl rb (ro+k*8+3) rfl [.int .i64 pt,.int .i64 pr,.int .i64 pi] _ HRX.out Tryz.underlying108 rfl (by kernel_rfl) ?_)
      |(refine store_at rfl _ _ _ rfl w00.heap.size 108 #[.int .i64 t,.int .i64 r,.int .i64 q] #[.int .i64 pt,.int .i64 pr,.int .i64 pi] rfl rfl HX2.out (by kernel_rfl) rfl HPC.out ?_;rw[←HV.out]))
     go_roundw
     case rel=>exact⟨n+1,⟨⟨pt,pr⟩,pi⟩,by omega,by go_num,HX3,HU3,hid (by rw[HF.out];exact HA2.out),HB3⟩
     case measure=>(simp[RowKit.intOf];omega)
  ·obtain rfl:n=L.length+1:=by omega
   have i1:¬((L.length:Int)+1)≤(L.length:Int):=by omega
   have i2:¬(((L.length+1:Nat):Int))≤(L.length:Int):=by omega
   have HA2:=hid (show ans=true by rw[HA.out,Nat.sub_self];rfl)
   go_wp2
   go_ret
   exact⟨by rw[HA2.out];rfl,HBr.out⟩
def stepP (out:List Plc) (x:Told):List Plc:=
 if (x.p.n.eqb .zero || within out x.p.p x.p.n)=true then out else match findP out x.p.n with
  |some k=>out.set k ⟨x.p.n,x.p.p,x.p.name,(out.getD k plc0).dir⟩
  |none=>insB (fun y=>x.p.n.lt y.n) plc0 out x.p
def replayL (l:List Told):List Plc:=(sortT l).foldl stepP []
theorem stepP_len (out:List Plc) (x:Told):(stepP out x).length≤out.length+1:=by
 unfold stepP
 split
 ·omega
 ·split
  ·rw[List.length_set];omega
  ·rw[insB_len];exact Nat.le_refl _
theorem foldP_len:∀(l:List Told) (out:List Plc),(l.foldl stepP out).length≤out.length+l.length
 | [],out=>Nat.le_refl _
 |x::l,out=>by
  have h1:=foldP_len l (stepP out x)
  have h2:=stepP_len out x
  rw[List.foldl_cons,List.length_cons];omega
theorem replayL_len (l:List Told):(replayL l).length≤l.length:=by
 unfold replayL
 have h1:=foldP_len (sortT l) []
 have h2:=sortT_len l []
 simp only[List.length_nil,Nat.zero_add] at h1 h2
 exact Nat.le_trans h1 h2
theorem replay_any (L:List Told) (A A2:Option Addr) (c c2:Nat) (S S2:Nat→Prop) (w00:World) (hl:L.length≤100000) (hR:RowF w00 S A 3 idL Gid.zero (L.map (·.a))) (hR2:RowF w00 S2 A2 8 plcL plc0 (L.map (·.p))):
  Calls Tryz.prog 111 #[.slice A L.length c,.slice A2 L.length c2] w00 fun e w'=>∃A' c',e= .returned (.slice A' (replayL L).length c')∧w'.ownsRow w00.heap.size 161 8 (.slice A' (replayL L).length c') (replayL L).length ((replayL L).flatMap plcL)∧Below w00.heap.size w00 w':=by
 obtain⟨i0,hi,hz0,hz1,hz2⟩:=info_parts info_plc
 have HSO:=hid (sortedt_any L A A2 c c2 S S2 w00 hl hR hR2)
 have hsl:=sortT_len L []
 obtain⟨N,hN⟩:∃N,N=sortT L:=⟨_,rfl⟩
 obtain⟨R,hR9⟩:∃R,R=replayL L:=⟨_,rfl⟩
 have HRR:=hid (show R=N.foldl stepP [] by rw[hR9,hN];rfl)
 rw[←hR9]
 rw[←hN] at HSO
 have hNl:N.length≤100000:=by rw[hN];simp only[List.length_nil,Nat.zero_add] at hsl;exact Nat.le_trans hsl hl
 clear hR hR2 hR9 hN hsl
 go_enter Tryz.func111,Tryz.ntmps111
 go_upto_region 4 with(go_at_call 167;refine HSO.out.mono ?_;rintro e w ⟨A1,c1,rfl,hown1,hB1⟩;have HN1:=hid hown1;have HB1:=hid hB1;clear hown1 hB1)
 go_loopw [6,7] (fun o i wr=>∃(k:Nat) (A':Option Addr) (c' m:Nat) (M:List Plc),k≤N.length∧i= .int .i64 k∧o= .slice A' m c'∧m≤k∧Hid (m=M.length)∧Hid (M=(N.take k).foldl stepP [])∧Hid (wr.ownsRow w.heap.size 161 8 (.slice A' m c') m (M.flatMap plcL))∧Hid (Below w.heap.size w wr)) (fun o i _=>N.length-(RowKit.intOf i).toNat)
 case atStart=>exact⟨0,none,0,0,[],Nat.zero_le _,rfl,rfl,Nat.le_refl _,hid rfl,hid rfl,hid (World.ownsRow_nil _ _ _ _),hid (Below.refl _ _)⟩
 case round=>
  obtain⟨k,A',c',m,M,hk,rfl,rfl,hmk,HML,HM,HO,HBr⟩:=hrel
  by_cases hlt:k<N.length
  ·have i1:(0:Int)≤(k:Int):=by omega
   have i2:(k:Int)<(N.length:Int):=by omega
   obtain⟨rb,rfl,-,hrb,hrange⟩:=own_range (f:=toldL) (fun _=>rfl) HN1.out hlt told0
   have hst:((N.take (k+1)).foldl stepP [])=stepP M (N.getD k told0):=by rw[HM.out];exact foldl_take _ _ hlt told0
   generalize N.getD k told0=p at *
   obtain⟨⟨⟨t,r⟩,n⟩,⟨⟨⟨nt,nr⟩,ni⟩,⟨⟨pt,pr⟩,pi⟩,nm,dd⟩⟩:=p
   have hsz:=HBr.out.size
   have hm63:m≤100000:=by omega
   have HPX:=hid (show wr.rangeAt rb (k*11+3) [.int .i64 nt,.int .i64 nr,.int .i64 ni,.int .i64 pt,.int .i64 pr,.int .i64 pi,.string nm,.bool dd] from range_mid (pre:=[.int .i64 t,.int .i64 r,.int .i64 n]) (post:=[]) (rangeB hrange hrb HBr.out))
   obtain⟨b0,hb0⟩:∃b,b=Gid.eqb ⟨⟨nt,nr⟩,ni⟩ ⟨⟨0,0⟩,0⟩:=⟨_,rfl⟩
   obtain⟨b1,hb1⟩:∃b,b=within M ⟨⟨pt,pr⟩,pi⟩ ⟨⟨nt,nr⟩,ni⟩:=⟨_,rfl⟩
   have q0:=eq_id nt nr ni 0 0 0 b0 hb0.symm
   have HST:=hid (show((N.take (k+1)).foldl stepP [])=if (b0 || b1)=true then M else match findP M ⟨⟨nt,nr⟩,ni⟩ with
    |some k=>M.set k ⟨⟨⟨nt,nr⟩,ni⟩,⟨⟨pt,pr⟩,pi⟩,nm,(M.getD k plc0).dir⟩
    |none=>insB (fun y=>Gid.lt ⟨⟨nt,nr⟩,ni⟩ y.n) plc0 M ⟨⟨⟨nt,nr⟩,ni⟩,⟨⟨pt,pr⟩,pi⟩,nm,dd⟩ by rw[hst,hb0,hb1];rfl)
   have HWI:=hid (fun W (hB:Below wr.heap.size wr W)=>show Calls Tryz.prog 168 #[.slice A' m c',.agg #[.int .i64 pt,.int .i64 pr,.int .i64 pi],.agg #[.int .i64 nt,.int .i64 nr,.int .i64 ni]] W fun e w'=>e= .returned (.bool b1)∧Below W.heap.size W w' from by
    have h9:=within_any M A' c' pt pr pi nt nr ni _ W (by rw[←HML.out];omega) (ownN_rowF (f:=plcL) (z:=plc0) (fun _=>rfl) HML.out (HO.out.kept (gby_below (r:=none) hB) (Classical.em _)))
    rw[←HML.out,←hb1] at h9;exact h9)
   have HFD:=hid (fun W (hB:Below wr.heap.size wr W)=>show Calls Tryz.prog 169 #[.slice A' m c',.agg #[.int .i64 nt,.int .i64 nr,.int .i64 ni]] W fun e w'=>e= .returned (.int .i64 (ixI (findP M ⟨⟨nt,nr⟩,ni⟩)))∧Below W.heap.size W w' from by
    have h9:=findplc_any M A' c' ⟨⟨nt,nr⟩,ni⟩ _ W (by rw[←HML.out];omega) (ownN_rowF (f:=plcL) (z:=plc0) (fun _=>rfl) HML.out (HO.out.kept (gby_below (r:=none) hB) (Classical.em _)))
    rw[←HML.out] at h9;exact h9)
   clear hst hb0 hb1 hrange hrb
   go_upto_region 7 with(first
    |(refine wpList_load_mid rfl _ _ rfl rb (k*11+3) rfl [.int .i64 nt,.int .i64 nr,.int .i64 ni,.int .i64 pt,.int .i64 pr,.int .i64 pi,.string nm,.bool dd] _ HPX.out Tryz.underlying161 rfl (by kernel_rfl) ?_)
    |(refine store_last rfl _ _ _ rfl _ _ _ _ rfl ?_ rfl ?_ ?_ ?_ ?_;(focus(simp;done));kernel_rfl;rfl;rfl))
   have hba:=HBr.out.alloc hsz (.cells #[.int .i64 nt,.int .i64 nr,.int .i64 ni,.int .i64 pt,.int .i64 pr,.int .i64 pi,.string nm,.bool dd] 161)
   have hbx:Below wr.heap.size wr (wr.alloc (.cells #[.int .i64 nt,.int .i64 nr,.int .i64 ni,.int .i64 pt,.int .i64 pr,.int .i64 pi,.string nm,.bool dd] 161)):=(Below.refl _ _).alloc (Nat.le_refl _) _
   have HCX:=hid (heap_alloc_new wr (.cells #[.int .i64 nt,.int .i64 nr,.int .i64 ni,.int .i64 pt,.int .i64 pr,.int .i64 pi,.string nm,.bool dd] 161))
   generalize hW:wr.alloc (.cells #[.int .i64 nt,.int .i64 nr,.int .i64 ni,.int .i64 pt,.int .i64 pr,.int .i64 pi,.string nm,.bool dd] 161)=W at *
   have HBW:=hid hba
   have HBX:=hid hbx
   have HOW:=hid (HO.out.kept (gby_below (r:=none) hbx) (Classical.em _))
   clear hW hba hbx
   have z0:W.cell? ⟨wr.heap.size,0,none⟩=some (.int .i64 nt):=cell_of_row _ _ _ _ _ _ HCX.out
   have z1:W.cell? ⟨wr.heap.size,1,none⟩=some (.int .i64 nr):=cell_of_row _ _ _ _ _ _ HCX.out
   have z2:W.cell? ⟨wr.heap.size,2,none⟩=some (.int .i64 ni):=cell_of_row _ _ _ _ _ _ HCX.out
   have z3:W.cell? ⟨wr.heap.size,3,none⟩=some (.int .i64 pt):=cell_of_row _ _ _ _ _ _ HCX.out
   have z4:W.cell? ⟨wr.heap.size,4,none⟩=some (.int .i64 pr):=cell_of_row _ _ _ _ _ _ HCX.out
   have z5:W.cell? ⟨wr.heap.size,5,none⟩=some (.int .i64 pi):=cell_of_row _ _ _ _ _ _ HCX.out
   have z6:W.cell? ⟨wr.heap.size,6,none⟩=some (.string nm):=cell_of_row _ _ _ _ _ _ HCX.out
   have z7:W.cell? ⟨wr.heap.size,7,none⟩=some (.bool dd):=cell_of_row _ _ _ _ _ _ HCX.out
   cases b0 with
   |true=>
    have HS9:=hid (show((N.take (k+1)).foldl stepP [])=M by rw[HST.out];rfl)
    go_wp2
    go_roundw
    case rel=>exact⟨k+1,A',c',m,M,by omega,by go_num,rfl,by omega,HML,hid HS9.out.symm,HOW,HBW⟩
    case measure=>(simp[RowKit.intOf];omega)
   | false=>
    cases b1 with
    |true=>
     have HS9:=hid (show((N.take (k+1)).foldl stepP [])=M by rw[HST.out];rfl)
     go_wp2_with (go_at_call 168;refine(HWI.out W HBX.out).mono ?_;rintro e w2 ⟨rfl,hB2⟩;have HC2:=hid ((hB2.block _ (lt_of_block HCX.out)).trans HCX.out);have HBY:=hid (HBX.out.trans (hB2.mono HBX.out.size));have HB2:=hid (HBW.out.trans (hB2.mono HBW.out.size));clear hB2;have v0:w2.cell? ⟨wr.heap.size,0,none⟩=some (.int .i64 nt):=cell_of_row _ _ _ _ _ _ HC2.out;have v1:w2.cell? ⟨wr.heap.size,1,none⟩=some (.int .i64 nr):=cell_of_row _ _ _ _ _ _ HC2.out;have v2:w2.cell? ⟨wr.heap.size,2,none⟩=some (.int .i64 ni):=cell_of_row _ _ _ _ _ _ HC2.out;have v3:w2.cell? ⟨wr.heap.size,3,none⟩=some (.int .i64 pt):=cell_of_row _ _ _ _ _ _ HC2.out;have v4:w2.cell? ⟨wr.heap.size,4,none⟩=some (.int .i64 pr):=cell_of_row _ _ _ _ _ _ HC2.out;have v5:w2.cell? ⟨wr.heap.size,5,none⟩=some (.int .i64 pi):=cell_of_row _ _ _ _ _ _ HC2.out;have v6:w2.cell? ⟨wr.heap.size,6,none⟩=some (.string nm):=cell_of_row _ _ _ _ _ _ HC2.out;have v7:w2.cell? ⟨wr.heap.size,7,none⟩=some (.bool dd):=cell_of_row _ _ _ _ _ _ HC2.out)
     have HO2:=hid (HO.out.kept (gby_below (r:=none) HBY.out) (Classical.em _))
     go_roundw
     case rel=>exact⟨k+1,A',c',m,M,by omega,by go_num,rfl,by omega,HML,hid HS9.out.symm,HO2,HB2⟩
     case measure=>(simp[RowKit.intOf];omega)
    | false=>
     cases hfd:findP M ⟨⟨nt,nr⟩,ni⟩ with
     | none=>
      have HS9:=hid (show((N.take (k+1)).foldl stepP [])=insB (fun y:Plc=>Gid.lt ⟨⟨nt,nr⟩,ni⟩ y.n) plc0 M ⟨⟨⟨nt,nr⟩,ni⟩,⟨⟨pt,pr⟩,pi⟩,nm,dd⟩ by rw[HST.out,if_neg (by decide),hfd])
      rw[hfd] at HFD
      clear hfd HST
      go_upto_region 12 with(first
       |(go_at_call 168;refine(HWI.out W HBX.out).mono ?_;rintro e w2 ⟨rfl,hB2⟩;have HC2:=hid ((hB2.block _ (lt_of_block HCX.out)).trans HCX.out);have HBY:=hid (HBX.out.trans (hB2.mono HBX.out.size));have HB2:=hid (HBW.out.trans (hB2.mono HBW.out.size));clear hB2;have v0:w2.cell? ⟨wr.heap.size,0,none⟩=some (.int .i64 nt):=cell_of_row _ _ _ _ _ _ HC2.out;have v1:w2.cell? ⟨wr.heap.size,1,none⟩=some (.int .i64 nr):=cell_of_row _ _ _ _ _ _ HC2.out;have v2:w2.cell? ⟨wr.heap.size,2,none⟩=some (.int .i64 ni):=cell_of_row _ _ _ _ _ _ HC2.out;have v3:w2.cell? ⟨wr.heap.size,3,none⟩=some (.int .i64 pt):=cell_of_row _ _ _ _ _ _ HC2.out;have v4:w2.cell? ⟨wr.heap.size,4,none⟩=some (.int .i64 pr):=cell_of_row _ _ _ _ _ _ HC2.out;have v5:w2.cell? ⟨wr.heap.size,5,none⟩=some (.int .i64 pi):=cell_of_row _ _ _ _ _ _ HC2.out;have v6:w2.cell? ⟨wr.heap.size,6,none⟩=some (.string nm):=cell_of_row _ _ _ _ _ _ HC2.out;have v7:w2.cell? ⟨wr.heap.size,7,none⟩=some (.bool dd):=cell_of_row _ _ _ _ _ _ HC2.out)
       |(go_at_call 169;refine(HFD.out w2 HBY.out).mono ?_;rintro e w3 ⟨rfl,hB3⟩;have HC3:=hid ((hB3.block _ (lt_of_block HC2.out)).trans HC2.out);have HBZ:=hid (HBY.out.trans (hB3.mono HBY.out.size));have HB3:=hid (HB2.out.trans (hB3.mono HB2.out.size));have HO3:=hid (HO.out.kept (gby_below (r:=none) HBZ.out) (Classical.em _));clear hB3;dsimp only[ixI]))
      have hsz3:=HB3.out.size
      go_upto_region 14 with(first
       |(refine load_at rfl _ _ rfl wr.heap.size _ _ _ rfl HC3.out Tryz.underlying161 rfl ?_ ?_;kernel_rfl)
       |(at_builtin;refine wpList_append_lies _ rfl _ _ 101 rfl w.heap.size 161 i0 (.agg #[.int .i64 0,.int .i64 0,.int .i64 0,.int .i64 0,.int .i64 0,.int .i64 0,.string ⟨#[]⟩,.bool false]) 8 72 Tryz.underlying101 hi hz0 hz1 hz2 rfl (by decide) (.slice A' m c') m _ rfl (by exact HO3.out.alloc _) ⟨w3.heap.size,0,none⟩ 1 1 [.int .i64 nt,.int .i64 nr,.int .i64 ni,.int .i64 pt,.int .i64 pr,.int .i64 pi,.string nm,.bool dd] rfl rfl (fun j y h=>cellsN w3 [.int .i64 nt,.int .i64 nr,.int .i64 ni,.int .i64 pt,.int .i64 pr,.int .i64 pi,.string nm,.bool dd] 161 j y h) (oc_of (c:=#[.int .i64 nt,.int .i64 nr,.int .i64 ni,.int .i64 pt,.int .i64 pr,.int .i64 pi,.string nm,.bool dd]) rfl) (by decide) (by unfold maxLen;omega) (by omega) (by simp;omega) (w3.heap.size+1) (by simp) ?_;intro gq cap w5 hown hgrow ha hlt5;have HO5:=hid hown;have HB5:=hid ((HB3.out.alloc hsz3 _).grown hgrow (by simp;omega) (fun b hb=>(HO3.out.lt b hb).1));clear hown hgrow ha hlt5))
      clear HWI HFD HCX HBW HBX HOW HBY HB2 HC2 HBZ HB3 HO3 HC3 HPX hsz3 z0 z1 z2 z3 z4 z5 z6 z7 v0 v1 v2 v3 v4 v5 v6 v7
      have hs9:slid M (⟨⟨⟨nt,nr⟩,ni⟩,⟨⟨pt,pr⟩,pi⟩,nm,dd⟩:Plc) m=M++[⟨⟨⟨nt,nr⟩,ni⟩,⟨⟨pt,pr⟩,pi⟩,nm,dd⟩]:=by rw[HML.out];exact slid_end _ _
      have HO6:=hid (show w5.ownsRow w.heap.size 161 8 (.slice (some ⟨gq,0,none⟩) (m+1) cap) (m+1) ((slid M (⟨⟨⟨nt,nr⟩,ni⟩,⟨⟨pt,pr⟩,pi⟩,nm,dd⟩:Plc) m).flatMap plcL) by rw[hs9,List.flatMap_append];exact HO5.out)
      clear hs9 HO5
      generalize w5=w6 at *
      go_loopw [10] (fun i wx=>∃(q:Nat),i= .int .i64 q∧q≤m∧Hid (insIx (fun y:Plc=>Gid.lt ⟨⟨nt,nr⟩,ni⟩ y.n) plc0 M q=insIx (fun y:Plc=>Gid.lt ⟨⟨nt,nr⟩,ni⟩ y.n) plc0 M M.length)∧Hid (wx.ownsRow w.heap.size 161 8 (.slice (some ⟨gq,0,none⟩) (m+1) cap) (m+1) ((slid M (⟨⟨⟨nt,nr⟩,ni⟩,⟨⟨pt,pr⟩,pi⟩,nm,dd⟩:Plc) q).flatMap plcL))∧Hid (Below w.heap.size w wx)) (fun i _=>(RowKit.intOf i).toNat)
      case atStart=>exact⟨m,rfl,Nat.le_refl _,hid (by rw[HML.out]),HO6,HB5⟩
      case round=>
       obtain⟨q,rfl,hq,HIX,HOq,HBq⟩:=hrel
       by_cases h0:0<q
       ·obtain⟨q,rfl⟩:∃p,q=p+1:=⟨q-1,by omega⟩
        have hqm:q+1≤M.length:=by rw[←HML.out];exact hq
        have hl1:m+1=(slid M (⟨⟨⟨nt,nr⟩,ni⟩,⟨⟨pt,pr⟩,pi⟩,nm,dd⟩:Plc) (q+1)).length:=by rw[slid_len,←HML.out]
        obtain⟨g3,e3,-,hg3,hr3⟩:=ownN_range (f:=plcL) (fun _=>rfl) hl1 HOq.out (k:=q) (by omega) plc0
        cases e3
        obtain⟨g4,e4,-,-,hr4⟩:=ownN_range (f:=plcL) (fun _=>rfl) hl1 HOq.out (k:=q+1) (by omega) plc0
        cases e4
        rw[slid_pre hqm] at hr3
        rw[slid_at hqm] at hr4
        have hsw:=slid_swap (L:=M) (x:=(⟨⟨⟨nt,nr⟩,ni⟩,⟨⟨pt,pr⟩,pi⟩,nm,dd⟩:Plc)) (z:=plc0) hqm
        obtain⟨y,hy⟩:∃y,y=M.getD q plc0:=⟨_,rfl⟩
        rw[←hy] at hr3 hsw
        obtain⟨b2,hb2⟩:∃b,b=(fun y:Plc=>Gid.lt ⟨⟨nt,nr⟩,ni⟩ y.n) y:=⟨_,rfl⟩
        have HPY:=hid (show(fun y:Plc=>Gid.lt ⟨⟨nt,nr⟩,ni⟩ y.n) (M.getD q plc0)=b2 by rw[←hy,hb2])
        clear hy
        obtain⟨⟨⟨t2,r2⟩,n2⟩,⟨⟨pt2,pr2⟩,pi2⟩,nm2,dd2⟩:=y
        have HR3:=hid (show wr.rangeAt gq (q*8) [.int .i64 t2,.int .i64 r2,.int .i64 n2,.int .i64 pt2,.int .i64 pr2,.int .i64 pi2,.string nm2,.bool dd2] from hr3)
        have HR4:=hid (show wr.rangeAt gq ((q+1)*8) [.int .i64 nt,.int .i64 nr,.int .i64 ni,.int .i64 pt,.int .i64 pr,.int .i64 pi,.string nm,.bool dd] from hr4)
        have y0:=cell_regrown (w:=wr) (a:=⟨gq,q*8,none⟩) (v:= .int .i64 t2) (hr3 0 _ rfl)
        have y1:=cell_regrown (w:=wr) (a:=⟨gq,q*8+1,none⟩) (v:= .int .i64 r2) (hr3 1 _ rfl)
        have y2:=cell_regrown (w:=wr) (a:=⟨gq,q*8+2,none⟩) (v:= .int .i64 n2) (hr3 2 _ rfl)
        have x0:=cell_regrown (w:=wr) (a:=⟨gq,(q+1)*8,none⟩) (v:= .int .i64 nt) (hr4 0 _ rfl)
        have x1:=cell_regrown (w:=wr) (a:=⟨gq,(q+1)*8+1,none⟩) (v:= .int .i64 nr) (hr4 1 _ rfl)
        have x2:=cell_regrown (w:=wr) (a:=⟨gq,(q+1)*8+2,none⟩) (v:= .int .i64 ni) (hr4 2 _ rfl)
        have HSW:=hid hsw
        have k1:(0:Int)<(q:Int)+1:=by omega
        have k2:(0:Int)≤(q:Int):=by omega
        have k3:(q:Int)<(m:Int)+1:=by omega
        have k4:(q:Int)+1<(m:Int)+1:=by omega
        have k5:(0:Int)≤(q:Int)+1:=by omega
        have k6:IntKind.i64.wrap (q:Int)=(q:Int):=by rw[IntKind.wrap_i64];omega
        have HL1:=hid hl1
        have HBF:=fun W=>refcmpid_any nt nr ni t2 r2 n2 W
        obtain⟨zc,hzc⟩:∃z,z=rcmpD ⟨⟨nt,nr⟩,ni⟩ ⟨⟨t2,r2⟩,n2⟩:=⟨_,rfl⟩
        rw[←hzc] at HBF
        have hz2:decide (0≤zc)= !b2:=by rw[hzc,rcmpD_ge,hb2]
        have hz3:decide (zc<0)=b2:=by cases b2<;>simp at hz2 ⊢ <;>omega
        clear hzc hz2
        have cA:=fun d os=>Calls.regrown_of (HBF (grow (redrawn wr d) os))
        clear hr3 hr4 hb2 hsw hl1
        cases b2 with
        |false=>
         go_upto_region 14 with fail
         refine rqb ?_
         repeat(any_goals(first|go_big_quiet_step (with_reducible exact cA _ _)|quiet_step (with_reducible exact cA _ _)))
         refine qz fun wq hBq=> ?_
         have HS8:=hid (show((N.take (k+1)).foldl stepP [])=slid M (⟨⟨⟨nt,nr⟩,ni⟩,⟨⟨pt,pr⟩,pi⟩,nm,dd⟩:Plc) (q+1) by rw[HS9.out];unfold insB;rw[←HIX.out,insIx_stop (.inr ⟨q,rfl,HPY.out⟩)])
         have HOx:=hid (HOq.out.kept (gby_below (r:=none) hBq) (Classical.em _))
         have HBx:=hid (HBq.out.trans (hBq.mono HBq.out.size))
         go_wp2
         go_roundw
         case rel=>exact⟨k+1,some ⟨gq,0,none⟩,cap,m+1,_,by omega,by go_num,rfl,by omega,HL1,hid HS8.out.symm,HOx,HBx⟩
         case measure=>(simp[RowKit.intOf];omega)
        | true=>
         go_upto_region 14 with fail
         refine rqb ?_
         repeat(any_goals(first|go_big_quiet_step (with_reducible exact cA _ _)|quiet_step (with_reducible exact cA _ _)))
         refine qz fun wq hBq=> ?_
         have HIX2:=hid (show insIx (fun y:Plc=>Gid.lt ⟨⟨nt,nr⟩,ni⟩ y.n) plc0 M q=insIx (fun y:Plc=>Gid.lt ⟨⟨nt,nr⟩,ni⟩ y.n) plc0 M M.length by rw[←HIX.out,insIx_go HPY.out])
         have HR3q:=hid (rangeB HR3.out hg3 hBq)
         have HR4q:=hid (rangeB HR4.out hg3 hBq)
         have HOq2:=hid (HOq.out.kept (gby_below (r:=none) hBq) (Classical.em _))
         have HBq2:=hid (HBq.out.trans (hBq.mono HBq.out.size))
         clear y0 y1 y2 x0 x1 x2 cA HOq hBq
         go_upto_region 16 with fail
         obtain⟨V1,hV1⟩:∃V,V=wq.drew.setCells gq ((q+1)*8) (#[.int .i64 t2,.int .i64 r2,.int .i64 n2,.int .i64 pt2,.int .i64 pr2,.int .i64 pi2,.string nm2,.bool dd2]:Array Value).toList:=⟨_,rfl⟩
         have hP1:V1.ownsRow w.heap.size 161 8 (.slice (some ⟨gq,0,none⟩) (m+1) cap) (m+1) (((slid M (⟨⟨⟨nt,nr⟩,ni⟩,⟨⟨pt,pr⟩,pi⟩,nm,dd⟩:Plc) (q+1)).set (q+1) (⟨⟨⟨t2,r2⟩,n2⟩,⟨⟨pt2,pr2⟩,pi2⟩,nm2,dd2⟩:Plc)).flatMap plcL)∧wq.drew.grownBy V1 (some gq):=by rw[hV1];exact ownN_put (f:=plcL) (fun _=>rfl) (by decide) HL1.out (show wq.drew.ownsRow _ _ _ _ _ _ from HOq2.out) (by omega) (⟨⟨⟨t2,r2⟩,n2⟩,⟨⟨pt2,pr2⟩,pi2⟩,nm2,dd2⟩:Plc)
         obtain⟨V2,hV2⟩:∃V,V=V1.setCells gq (q*8) (#[.int .i64 nt,.int .i64 nr,.int .i64 ni,.int .i64 pt,.int .i64 pr,.int .i64 pi,.string nm,.bool dd]:Array Value).toList:=⟨_,rfl⟩
         have hP2:V2.ownsRow w.heap.size 161 8 (.slice (some ⟨gq,0,none⟩) (m+1) cap) (m+1) ((((slid M (⟨⟨⟨nt,nr⟩,ni⟩,⟨⟨pt,pr⟩,pi⟩,nm,dd⟩:Plc) (q+1)).set (q+1) (⟨⟨⟨t2,r2⟩,n2⟩,⟨⟨pt2,pr2⟩,pi2⟩,nm2,dd2⟩:Plc)).set q (⟨⟨⟨nt,nr⟩,ni⟩,⟨⟨pt,pr⟩,pi⟩,nm,dd⟩:Plc)).flatMap plcL)∧V1.grownBy V2 (some gq):=by rw[hV2];exact ownN_put (f:=plcL) (fun _=>rfl) (by decide) (by rw[List.length_set];exact HL1.out) hP1.1 (by omega) (⟨⟨⟨nt,nr⟩,ni⟩,⟨⟨pt,pr⟩,pi⟩,nm,dd⟩:Plc)
         obtain⟨g5,e5,ht5⟩:=own_there (show wq.drew.ownsRow _ _ _ _ _ _ from HOq2.out) (k:=q+1) (by omega)
         cases e5
         obtain⟨g6,e6,ht6⟩:=own_there hP1.1 (k:=q) (by omega)
         cases e6
         have HP2:=hid hP2.1
         have HG2:=hid (show wq.heap.size≤V2.heap.size∧(Below w.heap.size w wq→w.heap.size≤gq→Below w.heap.size w V2) from⟨Nat.le_trans (show wq.drew.heap.size≤V1.heap.size from hP1.2.size) hP2.2.size,fun hb hl=>(hb.drew.grown hP1.2 (by exact hb.size) (fun b e=>by cases e;exact hl)).grown hP2.2 (Nat.le_trans hb.size (show wq.drew.heap.size≤V1.heap.size from hP1.2.size)) (fun b e=>by cases e;exact hl)⟩)
         have HV1:=hid hV1
         have HV2:=hid hV2
         have HT5:=hid ht5
         have HT6:=hid ht6
         have HAY:=hid (show(#[.int .i64 t2,.int .i64 r2,.int .i64 n2,.int .i64 pt2,.int .i64 pr2,.int .i64 pi2,.string nm2,.bool dd2]:Array Value).all (·.oneCell')=true by rw[←Array.all_toList];rfl)
         have HAX:=hid (show(#[.int .i64 nt,.int .i64 nr,.int .i64 ni,.int .i64 pt,.int .i64 pr,.int .i64 pi,.string nm,.bool dd]:Array Value).all (·.oneCell')=true by rw[←Array.all_toList];rfl)
         clear hP1 hP2 hV1 hV2 ht5 ht6
         refine wp_region_held (S:=fun _=>True) (by kernel_rfl) ?_
         try(change wpAnyH _ _ _ _ _ _ _ _ (World.drew _))
         refine tk 0 (.slice (some ⟨gq,0,none⟩) (m+1) cap) (trivial) ?_
         go_simp
         refine tk 1 (.int .i64 ((q:Int)+1)) (trivial) ?_
         go_simp
         refine tk 2 (.slice (some ⟨gq,0,none⟩) (m+1) cap) (trivial) ?_
         go_simp
         refine tk 3 (.int .i64 ((q:Int)+1)) (trivial) ?_
         go_simp
         refine tk 4 (.int .i64 (q:Int)) (trivial) ?_
         go_simp
         refine tk 5 (.slice (some ⟨gq,0,none⟩) (m+1) cap) (trivial) ?_
         go_simp
         refine tk 6 (.int .i64 ((q:Int)+1)) (trivial) ?_
         go_simp
         refine tk 7 (.int .i64 (q:Int)) (trivial) ?_
         go_simp
         refine tk 8 (.pointer (some ⟨gq,q*8,none⟩)) (trivial) ?_
         go_simp
         refine tk 10 (.slice (some ⟨gq,0,none⟩) (m+1) cap) (trivial) ?_
         go_simp
         refine tk 11 (.int .i64 ((q:Int)+1)) (trivial) ?_
         go_simp
         refine tk 12 (.pointer (some ⟨gq,(q+1)*8,none⟩)) (trivial) ?_
         go_simp
         refine wpAnyH_ready (rs:=[9,13]) (by kernel_rfl) (by simp) ?_
         refine AllReadyH.cons rfl (fun K hK=> ?_) (AllReadyH.cons rfl (fun K hK=> ?_) AllReadyH.nil)
         focus
          refine step_load_mid rfl _ _ rfl gq (q*8) rfl [.int .i64 t2,.int .i64 r2,.int .i64 n2,.int .i64 pt2,.int .i64 pr2,.int .i64 pi2,.string nm2,.bool dd2] _ (show wq.drew.rangeAt _ _ _ from HR3q.out) Tryz.underlying161 rfl (by kernel_rfl) ?_
          refine hK.out _ _ (trivial) (fun _=> ?_)
          clear hK K
          refine wpAnyH_ready (rs:=[13]) (by kernel_rfl) (by simp) ?_
          refine AllReadyH.cons rfl (fun K hK=> ?_) AllReadyH.nil
          refine step_load_mid rfl _ _ rfl gq ((q+1)*8) rfl [.int .i64 nt,.int .i64 nr,.int .i64 ni,.int .i64 pt,.int .i64 pr,.int .i64 pi,.string nm,.bool dd] _ (show wq.drew.rangeAt _ _ _ from HR4q.out) Tryz.underlying161 rfl (by kernel_rfl) ?_
          refine hK.out _ _ (trivial) (fun _=> ?_)
          clear hK K
         rotate_left
         focus
          refine step_load_mid rfl _ _ rfl gq ((q+1)*8) rfl [.int .i64 nt,.int .i64 nr,.int .i64 ni,.int .i64 pt,.int .i64 pr,.int .i64 pi,.string nm,.bool dd] _ (show wq.drew.rangeAt _ _ _ from HR4q.out) Tryz.underlying161 rfl (by kernel_rfl) ?_
          refine hK.out _ _ (trivial) (fun _=> ?_)
          clear hK K
          refine wpAnyH_ready (rs:=[9]) (by kernel_rfl) (by simp) ?_
          refine AllReadyH.cons rfl (fun K hK=> ?_) AllReadyH.nil
          refine step_load_mid rfl _ _ rfl gq (q*8) rfl [.int .i64 t2,.int .i64 r2,.int .i64 n2,.int .i64 pt2,.int .i64 pr2,.int .i64 pi2,.string nm2,.bool dd2] _ (show wq.drew.rangeAt _ _ _ from HR3q.out) Tryz.underlying161 rfl (by kernel_rfl) ?_
          refine hK.out _ _ (trivial) (fun _=> ?_)
          clear hK K
         all_goals
          refine tk 14 (.pointer (some ⟨gq,(q+1)*8,none⟩)) (trivial) ?_
          go_simp
          refine wpAnyH_ready (rs:=[15]) (by kernel_rfl) (by simp) ?_
          refine AllReadyH.cons rfl (fun K hK=> ?_) AllReadyH.nil
          refine step_store_mid rfl _ _ _ rfl gq ((q+1)*8) #[.int .i64 t2,.int .i64 r2,.int .i64 n2,.int .i64 pt2,.int .i64 pr2,.int .i64 pi2,.string nm2,.bool dd2] (by rfl) (by rfl) HT5.out (by kernel_rfl) HAY.out ?_
          rw[←HV1.out]
          refine hK.out _ _ (trivial) (fun _=> ?_)
          clear hK K
          refine tk 16 (.pointer (some ⟨gq,q*8,none⟩)) (trivial) ?_
          go_simp
          refine wpAnyH_ready (rs:=[17]) (by kernel_rfl) (by simp) ?_
          refine AllReadyH.cons rfl (fun K hK=> ?_) AllReadyH.nil
          refine step_store_mid rfl _ _ _ rfl gq (q*8) #[.int .i64 nt,.int .i64 nr,.int .i64 ni,.int .i64 pt,.int .i64 pr,.int .i64 pi,.string nm,.bool dd] (by rfl) (by rfl) HT6.out (by kernel_rfl) HAX.out ?_
          rw[←HV2.out]
          refine hK.out _ _ (trivial) (fun _=> ?_)
          clear hK K
          refine wpAnyH_done (by kernel_rfl) ?_ _
          go_simp
          go_wp2
          go_roundw
          case rel=>exact⟨q,by go_num,by omega,HIX2,hid (by rw[←HSW.out];exact HP2.out),hid (HG2.out.2 HBq2.out (HOq2.out.lt gq rfl).1)⟩
          case measure=>(simp[RowKit.intOf];try omega)
       ·obtain rfl:q=0:=by omega
        go_upto_region 14 with fail
        refine rqb ?_
        repeat(any_goals(first|go_big_quiet_step (fail)|quiet_step (fail)))
        refine qz fun wq hBq=> ?_
        have HS8:=hid (show((N.take (k+1)).foldl stepP [])=slid M (⟨⟨⟨nt,nr⟩,ni⟩,⟨⟨pt,pr⟩,pi⟩,nm,dd⟩:Plc) 0 by rw[HS9.out];unfold insB;rw[←HIX.out];rfl)
        have HL1:=hid (show m+1=(slid M (⟨⟨⟨nt,nr⟩,ni⟩,⟨⟨pt,pr⟩,pi⟩,nm,dd⟩:Plc) 0).length by rw[slid_len,←HML.out])
        have HOx:=hid (HOq.out.kept (gby_below (r:=none) hBq) (Classical.em _))
        have HBx:=hid (HBq.out.trans (hBq.mono HBq.out.size))
        go_wp2
        go_roundw
        case rel=>exact⟨k+1,some ⟨gq,0,none⟩,cap,m+1,_,by omega,by go_num,rfl,by omega,HL1,hid HS8.out.symm,HOx,HBx⟩
        case measure=>(simp[RowKit.intOf];omega)
     | some kf=>
      obtain⟨hkf,-⟩:=findP_lt hfd
      have hkm:kf<m:=by rw[HML.out];exact hkf
      have HS9:=hid (show((N.take (k+1)).foldl stepP [])=M.set kf ⟨⟨⟨nt,nr⟩,ni⟩,⟨⟨pt,pr⟩,pi⟩,nm,(M.getD kf plc0).dir⟩ by rw[HST.out,if_neg (by decide),hfd])
      rw[hfd] at HFD
      have k1:(0:Int)≤(kf:Int):=by omega
      have k2:(kf:Int)<(m:Int):=by omega
      clear hfd HST
      go_upto_region 10 with(first
       |(go_at_call 168;refine(HWI.out W HBX.out).mono ?_;rintro e w2 ⟨rfl,hB2⟩;have HC2:=hid ((hB2.block _ (lt_of_block HCX.out)).trans HCX.out);have HBY:=hid (HBX.out.trans (hB2.mono HBX.out.size));have HB2:=hid (HBW.out.trans (hB2.mono HBW.out.size));clear hB2;have v0:w2.cell? ⟨wr.heap.size,0,none⟩=some (.int .i64 nt):=cell_of_row _ _ _ _ _ _ HC2.out;have v1:w2.cell? ⟨wr.heap.size,1,none⟩=some (.int .i64 nr):=cell_of_row _ _ _ _ _ _ HC2.out;have v2:w2.cell? ⟨wr.heap.size,2,none⟩=some (.int .i64 ni):=cell_of_row _ _ _ _ _ _ HC2.out;have v3:w2.cell? ⟨wr.heap.size,3,none⟩=some (.int .i64 pt):=cell_of_row _ _ _ _ _ _ HC2.out;have v4:w2.cell? ⟨wr.heap.size,4,none⟩=some (.int .i64 pr):=cell_of_row _ _ _ _ _ _ HC2.out;have v5:w2.cell? ⟨wr.heap.size,5,none⟩=some (.int .i64 pi):=cell_of_row _ _ _ _ _ _ HC2.out;have v6:w2.cell? ⟨wr.heap.size,6,none⟩=some (.string nm):=cell_of_row _ _ _ _ _ _ HC2.out;have v7:w2.cell? ⟨wr.heap.size,7,none⟩=some (.bool dd):=cell_of_row _ _ _ _ _ _ HC2.out)
       |(go_at_call 169;refine(HFD.out w2 HBY.out).mono ?_;rintro e w3 ⟨rfl,hB3⟩;have HC3:=hid ((hB3.block _ (lt_of_block HC2.out)).trans HC2.out);have HBZ:=hid (HBY.out.trans (hB3.mono HBY.out.size));have HB3:=hid (HB2.out.trans (hB3.mono HB2.out.size));have HO3:=hid (HO.out.kept (gby_below (r:=none) HBZ.out) (Classical.em _));clear hB3;dsimp only[ixI]))
      obtain⟨g3,rfl,-,hg3,hr3⟩:=ownN_range (f:=plcL) (fun _=>rfl) HML.out HO3.out hkm plc0
      obtain⟨d2,hd2⟩:∃d,d=(M.getD kf plc0).dir:=⟨_,rfl⟩
      have hc7:w3.cell? ⟨g3,kf*8+7,none⟩=some (.bool d2):=by rw[hd2];exact hr3 7 _ rfl
      rw[←hd2] at HS9
      have hgn:(Value.slice (some ⟨g3,0,none⟩) m c').ownBlock≠some wr.heap.size:=fun e=>by
       have e:some g3=some wr.heap.size:=e
       injection e with e
       have:=(HO.out.lt g3 rfl).2
       omega
      have c7:w3.cell? ⟨wr.heap.size,7,none⟩=some (.bool dd):=cell_of_row _ _ _ _ _ _ HC3.out
      have f7:w3.frozen? ⟨wr.heap.size,7,none⟩=false:=frozen_of_row _ _ _ _ _ HC3.out
      have HGN:=hid hgn
      clear hr3 hd2 hgn
      go_upto_region 11 with fail
      obtain⟨V1,hV1⟩:∃V,V=w3.setCell ⟨wr.heap.size,7,none⟩ (.bool d2):=⟨_,rfl⟩
      have HC4:=hid (show V1.heap[wr.heap.size]? =some (.cells #[.int .i64 nt,.int .i64 nr,.int .i64 ni,.int .i64 pt,.int .i64 pr,.int .i64 pi,.string nm,.bool d2] 161 (0,0)) by rw[hV1];exact set_obj (c:=#[.int .i64 nt,.int .i64 nr,.int .i64 ni,.int .i64 pt,.int .i64 pr,.int .i64 pi,.string nm,.bool dd]) HC3.out 7 (.bool d2) rfl)
      have HO4:=hid (show V1.ownsRow w.heap.size 161 8 (.slice (some ⟨g3,0,none⟩) m c') m (M.flatMap plcL) by rw[hV1];exact own_set HO3.out HGN.out 7 (.bool d2))
      have HB4:=hid (show Below w.heap.size w V1 by rw[hV1];exact HB3.out.grown (gby_set wr.heap.size 7 (.bool d2)) HB3.out.size (fun b e=>by cases e;exact hsz))
      have hput:=ownN_put (f:=plcL) (fun _=>rfl) (by decide) HML.out HO4.out hkm (⟨⟨⟨nt,nr⟩,ni⟩,⟨⟨pt,pr⟩,pi⟩,nm,d2⟩:Plc)
      obtain⟨V2,hV2⟩:∃V,V=V1.setCells g3 (kf*8) (#[.int .i64 nt,.int .i64 nr,.int .i64 ni,.int .i64 pt,.int .i64 pr,.int .i64 pi,.string nm,.bool d2]:Array Value).toList:=⟨_,rfl⟩
      have HO5:=hid (show V2.ownsRow w.heap.size 161 8 (.slice (some ⟨g3,0,none⟩) m c') m ((M.set kf (⟨⟨⟨nt,nr⟩,ni⟩,⟨⟨pt,pr⟩,pi⟩,nm,d2⟩:Plc)).flatMap plcL) by rw[hV2];exact hput.1)
      have HB5:=hid (show Below w.heap.size w V2 by rw[hV2];exact HB4.out.grown hput.2 HB4.out.size (fun b e=>by cases e;exact(HO4.out.lt g3 rfl).1))
      obtain⟨g6,e6,ht6⟩:=own_there HO4.out hkm
      cases e6
      have HT6:=hid ht6
      have HV2:=hid hV2
      have HAL:=hid (show(#[.int .i64 nt,.int .i64 nr,.int .i64 ni,.int .i64 pt,.int .i64 pr,.int .i64 pi,.string nm,.bool d2]:Array Value).all (·.oneCell')=true by rw[←Array.all_toList];rfl)
      have HML2:=hid (show m=(M.set kf (⟨⟨⟨nt,nr⟩,ni⟩,⟨⟨pt,pr⟩,pi⟩,nm,d2⟩:Plc)).length by rw[List.length_set];exact HML.out)
      rw[←hV1]
      clear hput ht6 hV2 hV1 c7 f7 hc7 v0 v1 v2 v3 v4 v5 v6 v7 z0 z1 z2 z3 z4 z5 z6 z7
      go_wp2_with (first
       |(refine load_at rfl _ _ rfl wr.heap.size _ _ _ rfl HC4.out Tryz.underlying161 rfl ?_ ?_;kernel_rfl)
       |(refine wpList_store_mid rfl _ _ _ rfl g3 (kf*8) #[.int .i64 nt,.int .i64 nr,.int .i64 ni,.int .i64 pt,.int .i64 pr,.int .i64 pi,.string nm,.bool d2] rfl rfl HT6.out (by kernel_rfl) HAL.out ?_;rw[←HV2.out]))
      go_roundw
      case rel=>exact⟨k+1,some ⟨g3,0,none⟩,c',m,_,by omega,by go_num,rfl,by omega,HML2,hid HS9.out.symm,HO5,HB5⟩
      case measure=>(simp[RowKit.intOf];omega)
  ·obtain rfl:k=N.length:=by omega
   have i2:¬(N.length:Int)<(N.length:Int):=by omega
   have HM9:=hid (show M=R by rw[HRR.out];have h9:=HM.out;rw[List.take_length] at h9;exact h9)
   go_wp2
   go_ret
   refine⟨A',c',by rw[←HM9.out,←HML.out];rfl,?_,HB1.out.trans (HBr.out.mono HB1.out.size)⟩
   rw[←HM9.out,←HML.out];exact own_base HO.out HB1.out.size
end
end Go.Proofs.YtkhmicndehlneaaGreatDoor
