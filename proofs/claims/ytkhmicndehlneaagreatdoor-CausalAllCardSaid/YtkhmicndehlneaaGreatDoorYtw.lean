/- Part 23 of the walks and plain laws that this claim uses, joined. Conditions: as each theorem states. -/
import Derived.Test.YtkhmicndehlneaaGreatDoorYtv
namespace Go.Proofs.YtkhmicndehlneaaGreatDoor
set_option maxRecDepth 100000
set_option maxHeartbeats 16000000
section
open Go.RowKit Go.Lib Go.Sort
set_option linter.unusedVariables false
attribute [local go_sem ↓] Go.wp_at_zero Go.wp_at_succ
def stepOn (on:List Hd) (x:Hd):List Hd:=if on.any (fun y=>y.u.eqb x.s)=true then on else on++[x]
def onH (l:List Hd):List Hd:=(sortH l).foldl stepOn []
def onS (l:List Hd):List Gst:=(onH l).reverse.map (·.s)
theorem stepOn_len (on:List Hd) (x:Hd):(stepOn on x).length≤on.length+1:=by
 unfold stepOn
 split
 ·omega
 ·rw[List.length_append,List.length_singleton];exact Nat.le_refl _
theorem foldOn_len:∀(l:List Hd) (out:List Hd),(l.foldl stepOn out).length≤out.length+l.length
 | [],out=>Nat.le_refl _
 |x::l,out=>by
  have h1:=foldOn_len l (stepOn out x)
  have h2:=stepOn_len out x
  rw[List.foldl_cons,List.length_cons];omega
theorem onS_len (l:List Hd):(onS l).length≤l.length:=by
 unfold onS onH
 rw[List.length_map,List.length_reverse]
 have h1:=foldOn_len (sortH l) []
 have h2:=sortH_len l []
 simp only[List.length_nil,Nat.zero_add] at h1 h2
 exact Nat.le_trans h1 h2
theorem rev_step {M:List Hd} {q:Nat} (h:q<M.length):(M.drop q).reverse.map (·.s)=(M.drop (q+1)).reverse.map (·.s)++[(M.getD q hd0).s]:=by
 rw[List.drop_eq_getElem_cons h,List.reverse_cons,List.map_append,List.getD_eq_getElem?_getD,List.getElem?_eq_getElem h];rfl
theorem on_any (L:List Hd) (A:Option Addr) (c:Nat) (S:Nat→Prop) (w:World) (hl:L.length≤100000) (hR:RowF w S A 4 hdL hd0 L):
  Calls Tryz.prog 107 #[.slice A L.length c] w fun e w'=>∃A' c',e= .returned (.slice A' (onS L).length c')∧w'.ownsRow w.heap.size 42 2 (.slice A' (onS L).length c') (onS L).length ((onS L).flatMap stL)∧Below w.heap.size w w':=by
 obtain⟨i0,hi,hz0,hz1,hz2⟩:=info_parts info_hd
 obtain⟨i1,hi',hy0,hy1,hy2⟩:=info_parts info_st
 have HSO:=hid (sortedh_any L A c S w hl hR)
 have hsl:=sortH_len L []
 have HON:=hid (show(onS L).length=(onH L).length by unfold onS;rw[List.length_map,List.length_reverse])
 obtain⟨N,hN⟩:∃N,N=sortH L:=⟨_,rfl⟩
 obtain⟨R,hR9⟩:∃R,R=onS L:=⟨_,rfl⟩
 have HRR:=hid (show R=(N.foldl stepOn []).reverse.map (·.s) by rw[hR9,hN];rfl)
 rw[←hR9]
 rw[←hN] at HSO
 have hNl:N.length≤100000:=by rw[hN];simp only[List.length_nil,Nat.zero_add] at hsl;exact Nat.le_trans hsl hl
 clear hR hR9 hN hsl HON
 go_enter Tryz.func107,Tryz.ntmps107
 go_upto_region 4 with(go_at_call 166;refine HSO.out.mono ?_;rintro e w1 ⟨A1,c1,rfl,hown1,hB1⟩;have HN1:=hid hown1;have HB1:=hid hB1;clear hown1 hB1)
 go_loopw [4,5] (fun o i wr=>∃(k:Nat) (A':Option Addr) (c' m:Nat) (M:List Hd),k≤N.length∧i= .int .i64 k∧o= .slice A' m c'∧m≤k∧Hid (m=M.length)∧Hid (M=(N.take k).foldl stepOn [])∧Hid (wr.ownsRow w1.heap.size 224 4 (.slice A' m c') m (M.flatMap hdL))∧Hid (Below w1.heap.size w1 wr)) (fun o i _=>N.length-(RowKit.intOf i).toNat)
 case atStart=>exact⟨0,none,0,0,[],Nat.zero_le _,rfl,rfl,Nat.le_refl _,hid rfl,hid rfl,hid (World.ownsRow_nil _ _ _ _),hid (Below.refl _ _)⟩
 case round=>
  obtain⟨k,A',c',m,M,hk,rfl,rfl,hmk,HML,HM,HO,HBr⟩:=hrel
  by_cases hlt:k<N.length
  ·have i1:(0:Int)≤(k:Int):=by omega
   have i2:(k:Int)<(N.length:Int):=by omega
   obtain⟨rb,rfl,-,hrb,hrange⟩:=own_range (f:=hdL) (fun _=>rfl) HN1.out hlt hd0
   have hst:(N.take (k+1)).foldl stepOn []=stepOn M (N.getD k hd0):=by rw[HM.out];exact foldl_take _ _ hlt hd0
   generalize N.getD k hd0=p at *
   obtain⟨⟨t,r⟩,⟨ut,ur⟩⟩:=p
   have HRW:=hid (fun W (hB:Below w1.heap.size w1 W)=>show W.rangeAt rb (k*4) [.int .i64 t,.int .i64 r,.int .i64 ut,.int .i64 ur] from rangeB hrange hrb hB)
   have HST:=hid hst
   have hsz:=HBr.out.size
   clear hrange hrb hst
   generalize wr=w0 at *
   go_upto_region 8 with fail
   go_loopw [6,7] (fun h i wr=>∃(j:Nat) (b:Bool),j≤m∧i= .int .i64 j∧h= .bool b∧Hid (b=(M.take j).any (fun y:Hd=>y.u.eqb ⟨t,r⟩))∧Hid (Below w0.heap.size w0 wr)) (fun h i _=>m-(RowKit.intOf i).toNat)
   case atStart=>exact⟨0,false,Nat.zero_le _,rfl,rfl,hid rfl,hid (Below.refl _ _)⟩
   case round=>
    obtain⟨j,b,hj,rfl,rfl,HB,HBj⟩:=hrel
    have HBw:=hid (HBr.out.trans (HBj.out.mono hsz))
    have HOj:=hid (HO.out.kept (gby_below (r:=none) HBj.out) (Classical.em _))
    by_cases hjm:j<m
    ·have j1:(0:Int)≤(j:Int):=by omega
     have j2:(j:Int)<(m:Int):=by omega
     obtain⟨g2,rfl,-,hg2,hr2⟩:=ownN_range (f:=hdL) (fun _=>rfl) HML.out HOj.out hjm hd0
     have htk:(M.take (j+1)).any (fun y:Hd=>y.u.eqb ⟨t,r⟩)=((M.take j).any (fun y:Hd=>y.u.eqb ⟨t,r⟩) || (fun y:Hd=>y.u.eqb ⟨t,r⟩) (M.getD j hd0)):=by rw[takeD_succ (by rw[←HML.out];exact hjm) hd0,List.any_append];simp
     generalize M.getD j hd0=y at *
     obtain⟨⟨t2,r2⟩,⟨ut2,ur2⟩⟩:=y
     obtain⟨b2,hb2⟩:∃b,b=(fun y:Hd=>y.u.eqb ⟨t,r⟩) ⟨⟨t2,r2⟩,⟨ut2,ur2⟩⟩:=⟨_,rfl⟩
     have q1:=eq_st ut2 ur2 t r b2 hb2.symm
     have HTK:=hid (show(M.take (j+1)).any (fun y:Hd=>y.u.eqb ⟨t,r⟩)=(b || b2) by rw[htk,HB.out,hb2])
     have y2:=cell_regrown (w:=wr) (a:=⟨g2,j*4+2,none⟩) (v:= .int .i64 ut2) (hr2 2 _ rfl)
     have y3:=cell_regrown (w:=wr) (a:=⟨g2,j*4+3,none⟩) (v:= .int .i64 ur2) (hr2 3 _ rfl)
     have x0:=cell_regrown (w:=wr) (a:=⟨rb,k*4,none⟩) (v:= .int .i64 t) ((HRW.out wr HBw.out) 0 _ rfl)
     have x1:=cell_regrown (w:=wr) (a:=⟨rb,k*4+1,none⟩) (v:= .int .i64 r) ((HRW.out wr HBw.out) 1 _ rfl)
     clear hr2 hb2 htk
     cases b with
     |true=>
      go_upto_region 10 with fail
      refine rqb ?_
      repeat(any_goals(first|go_big_quiet_step (fail)|quiet_step (fail)))
      refine qz fun wq hBq=> ?_
      go_wp2
      go_roundw
      case rel=>exact⟨j+1,true,by omega,by go_num,rfl,hid (by rw[HTK.out];rfl),hid (HBj.out.trans (hBq.mono HBj.out.size))⟩
      case measure=>(simp[RowKit.intOf];omega)
     |false=>
      go_upto_region 10 with fail
      refine rqb ?_
      repeat(any_goals(first|go_big_quiet_step (fail)|quiet_step (fail)))
      refine qz fun wq hBq=> ?_
      go_wp2
      go_roundw
      case rel=>exact⟨j+1,b2,by omega,by go_num,rfl,hid (by rw[HTK.out];rfl),hid (HBj.out.trans (hBq.mono HBj.out.size))⟩
      case measure=>(simp[RowKit.intOf];omega)
    ·obtain rfl:j=m:=by omega
     have j2:¬(j:Int)<(j:Int):=by omega
     have hany:b=M.any (fun y:Hd=>y.u.eqb ⟨t,r⟩):=by rw[HB.out,HML.out,List.take_length]
     cases b with
     |true=>
      have HS9:=hid (show((N.take (k+1)).foldl stepOn [])=M by rw[HST.out];unfold stepOn;rw[if_pos hany.symm])
      clear hany
      go_wp2
      go_roundw
      case rel=>exact⟨k+1,A',c',j,M,by omega,by go_num,rfl,by omega,HML,hid HS9.out.symm,HOj,HBw⟩
      case measure=>(simp[RowKit.intOf];omega)
     | false=>
      have HS9:=hid (show((N.take (k+1)).foldl stepOn [])=M++[⟨⟨t,r⟩,⟨ut,ur⟩⟩] by rw[HST.out];unfold stepOn;rw[if_neg (by rw[←hany];decide)])
      clear hany
      have HRGq:=hid (HRW.out wr HBw.out)
      have hszw:=HBw.out.size
      have hszq:=HBj.out.size
      go_wp2_with (first
       |(refine wpList_load_mid rfl _ _ rfl rb (k*4) rfl [.int .i64 t,.int .i64 r,.int .i64 ut,.int .i64 ur] _ HRGq.out Tryz.underlying224 rfl (by kernel_rfl) ?_)
       |(at_builtin;refine wpList_append_lies _ rfl _ _ 157 rfl w1.heap.size 224 i0 (.agg #[.int .i64 0,.int .i64 0,.int .i64 0,.int .i64 0]) 4 32 Tryz.underlying157 hi hz0 hz1 hz2 rfl (by decide) (.slice A' j c') j _ rfl (by exact HOj.out.alloc _) ⟨wr.heap.size,0,none⟩ 1 1 [.int .i64 t,.int .i64 r,.int .i64 ut,.int .i64 ur] rfl rfl (fun j y h=>cellsN wr [.int .i64 t,.int .i64 r,.int .i64 ut,.int .i64 ur] 224 j y h) (oc_of (c:=#[.int .i64 t,.int .i64 r,.int .i64 ut,.int .i64 ur]) rfl) (by decide) (by unfold maxLen;omega) (by omega) (by simp;omega) (wr.heap.size+1) (by simp) ?_;intro gq cap w5 hown hgrow ha hlt5;have HO5:=hid hown;have HB5:=hid ((HBw.out.alloc hszw _).grown hgrow (by simp;omega) (fun b hb=>(HOj.out.lt b hb).1));clear hown hgrow ha hlt5))
      go_roundw
      case rel=>exact⟨k+1,some ⟨gq,0,none⟩,cap,j+1,_,by omega,by go_num,rfl,by omega,hid (by rw[List.length_append,←HML.out];rfl),hid HS9.out.symm,hid (by rw[List.flatMap_append];exact HO5.out),HB5⟩
      case measure=>(simp[RowKit.intOf];omega)
  ·obtain rfl:k=N.length:=by omega
   have i2:¬(N.length:Int)<(N.length:Int):=by omega
   have HM9:=hid (show M=N.foldl stepOn [] by have h9:=HM.out;rw[List.take_length] at h9;exact h9)
   have hm9:m≤100000:=by omega
   generalize wr=w7 at *
   go_upto_region 15 with fail
   go_loopw [8,9] (fun o i wr=>∃(q:Nat) (A9:Option Addr) (c9 n9:Nat),q≤m∧q+n9=m∧i= .int .i64 ((q:Int)-1)∧o= .slice A9 n9 c9∧Hid (wr.ownsRow w7.heap.size 42 2 (.slice A9 n9 c9) n9 (((M.drop q).reverse.map (·.s)).flatMap stL))∧Hid (Below w7.heap.size w7 wr)) (fun o i _=>(RowKit.intOf i+1).toNat)
   case atStart=>exact⟨m,none,0,0,Nat.le_refl _,by omega,by go_num,rfl,hid (by rw[HML.out,List.drop_length];exact World.ownsRow_nil _ _ _ _),hid (Below.refl _ _)⟩
   case round=>
    obtain⟨q,A9,c9,n9,hq,hqn,rfl,rfl,HO9,HB9⟩:=hrel
    have HBw:=hid (HBr.out.trans (HB9.out.mono HBr.out.size))
    by_cases h0:0<q
    ·obtain⟨q,rfl⟩:∃p,q=p+1:=⟨q-1,by omega⟩
     have hqM:q<M.length:=by rw[←HML.out];omega
     obtain⟨g2,rfl,-,hg2,hr2⟩:=ownN_range (f:=hdL) (fun _=>rfl) HML.out HO.out (k:=q) (by omega) hd0
     have hrs:=rev_step hqM
     generalize M.getD q hd0=y at *
     obtain⟨⟨t,r⟩,⟨ut,ur⟩⟩:=y
     have HRX:=hid (show wr.rangeAt g2 (q*4) [.int .i64 t,.int .i64 r] from range_mid (pre:=[]) (post:=[.int .i64 ut,.int .i64 ur]) (rangeB hr2 hg2 HB9.out))
     have HRS:=hid hrs
     have e0:(((q+1:Nat):Int)-1)=(q:Int):=by omega
     rw[e0]
     have k1:(0:Int)≤(q:Int):=by omega
     have k2:(q:Int)<(m:Int):=by omega
     have k3:IntKind.i64.wrap ((q:Int)-1)=(q:Int)-1:=by rw[IntKind.wrap_i64];omega
     have hszw:=HB9.out.size
     have hn9:n9≤100000:=by omega
     clear hr2 hrs e0
     go_wp2_with (first
      |(refine wpList_load_mid rfl _ _ rfl g2 (q*4) rfl [.int .i64 t,.int .i64 r] _ HRX.out Tryz.underlying42 rfl (by kernel_rfl) ?_)
      |(at_builtin;refine wpList_append_lies _ rfl _ _ 100 rfl w7.heap.size 42 i1 (.agg #[.int .i64 0,.int .i64 0]) 2 16 Tryz.underlying100 hi' hy0 hy1 hy2 rfl (by decide) (.slice A9 n9 c9) n9 _ rfl (by exact HO9.out.alloc _) ⟨wr.heap.size,0,none⟩ 1 1 [.int .i64 t,.int .i64 r] rfl rfl (fun j y h=>cellsN wr [.int .i64 t,.int .i64 r] 42 j y h) (oc_of (c:=#[.int .i64 t,.int .i64 r]) rfl) (by decide) (by unfold maxLen;omega) (by omega) (by simp;omega) (wr.heap.size+1) (by simp) ?_;intro gq cap w5 hown hgrow ha hlt5;have HO5:=hid hown;have HB5:=hid ((HB9.out.alloc hszw _).grown hgrow (by simp;omega) (fun b hb=>(HO9.out.lt b hb).1));clear hown hgrow ha hlt5))
     go_roundw
     case rel=>exact⟨q,some ⟨gq,0,none⟩,cap,n9+1,by omega,by omega,by go_num,rfl,hid (by rw[HRS.out,List.flatMap_append];exact HO5.out),HB5⟩
     case measure=>(simp[RowKit.intOf];try omega)
    ·obtain rfl:q=0:=by omega
     rw[show(((0:Nat):Int)-1)= -1 by rfl]
     obtain rfl:n9=m:=by omega
     have HRL:=hid (show R=M.reverse.map (·.s) by rw[HRR.out,HM9.out])
     have HRN:=hid (show R.length=n9 by rw[HRL.out,List.length_map,List.length_reverse,HML.out])
     have HO8:=hid (show wr.ownsRow w7.heap.size 42 2 (.slice A9 n9 c9) n9 (R.flatMap stL) by rw[HRL.out];exact HO9.out)
     go_wp2
     go_ret
     refine⟨A9,c9,by rw[HRN.out];rfl,?_,HB1.out.trans (HBw.out.mono HB1.out.size)⟩
     rw[HRN.out]
     have h9:=HB1.out.size
     have h8:=HBr.out.size
     rcases HO8.out.2 with⟨e1,e2⟩|⟨g,cap,cur,e1,e2,e3⟩
     ·exact⟨HO8.out.1,.inl ⟨e1,e2⟩⟩
     ·exact⟨HO8.out.1,.inr ⟨g,cap,cur,e1,by omega,e3⟩⟩
end
section
open Go.RowKit Go.Lib Go.Sort
set_option linter.unusedVariables false
def apart (u v:Value):Prop:=∀g,u.ownBlock=some g→v.ownBlock=some g→False
theorem apart.symm {u v:Value} (h:apart u v):apart v u:=fun g a b=>h g b a
theorem apart.kept {u v:Value} (h:apart u v):u.ownBlock=none∨u.ownBlock≠v.ownBlock:=by
 cases e:u.ownBlock with
 |none=>exact .inl rfl
 |some g=>exact .inr fun e2=>h g e e2.symm
theorem apart.new {u v:Value} {g n cap N:Nat} (h:apart u v) (hat:u.ownBlock=some g∨g=N) (hv:∀b,v.ownBlock=some b→b<N):apart (.slice (some ⟨g,0,none⟩) n cap) v:=fun b e1 e2=>by
 have e1:some g=some b:=e1
 cases e1
 rcases hat with h1|h1
 ·exact h g h1 e2
 ·have:=hv g e2;omega
theorem apart.nil {v:Value}:apart (.slice none 0 0) v:=fun g e _=>by cases e
structure OfI (B sb onb kb:Nat) (onA:Option Addr) (ON:List Gst) (ko:Obj) (so sh sl:Value) (w1 wr:World) (va vt vh vl:Value) (na nt nh nl:Nat) (AT:List Gid) (TL:List Plc) (HV LS:List Dt):Prop where
 ea:na=AT.length
 et:nt=TL.length
 eh:nh=HV.length
 el:nl=LS.length
 oa:wr.ownsRow B 108 3 va na (AT.flatMap idL)
 ot:wr.ownsRow B 161 8 vt nt (TL.flatMap plcL)
 oh:wr.ownsRow B 163 5 vh nh (HV.flatMap dtL)
 ol:wr.ownsRow B 163 5 vl nl (LS.flatMap dtL)
 dat:apart va vt
 dah:apart va vh
 dal:apart va vl
 dth:apart vt vh
 dtl:apart vt vl
 dhl:apart vh vl
 st:wr.heap[sb]? =some (.cells #[so,.slice none 0 0,sh,sl,.slice none 0 0] 105 (0,0))
 on:RowF wr (fun b=>b=onb) onA 2 stL Gst.zero ON
 ke:wr.heap[kb]? =some ko
 ka:va.ownBlock≠some kb
 kt:vt.ownBlock≠some kb
 kh:vh.ownBlock≠some kb
 kl:vl.ownBlock≠some kb
 ks:kb≠sb
 bl:Below w1.heap.size w1 wr
 sz:B≤wr.heap.size
 s1:w1.heap.size≤sb
 s2:sb<B
 o1:onb<B
 o2:onb≠sb
section
variable {B sb onb kb : Nat} {onA : Option Addr} {ON : List Gst} {ko : Obj} {so sh sl : Value} {w1 wr w' : World} {va vt vh vl : Value} {na nt nh nl : Nat} {AT : List Gid} {TL : List Plc} {HV LS : List Dt}
theorem ge_none {u:Value} {r:Option Nat} (h:r=none):u.ownBlock=none∨u.ownBlock≠r:=by
 cases e:u.ownBlock with
 |none=>exact .inl rfl
 |some g=>rw[h];exact .inr (by simp)
theorem OfI.below (h:OfI B sb onb kb onA ON ko so sh sl w1 wr va vt vh vl na nt nh nl AT TL HV LS) (hB:Below wr.heap.size wr w'):OfI B sb onb kb onA ON ko so sh sl w1 w' va vt vh vl na nt nh nl AT TL HV LS:=by
 have hg:wr.grownBy w' none:=gby_below hB
 refine⟨h.ea,h.et,h.eh,h.el,h.oa.kept hg (ge_none rfl),h.ot.kept hg (ge_none rfl),h.oh.kept hg (ge_none rfl),h.ol.kept hg (ge_none rfl),h.dat,h.dah,h.dal,h.dth,h.dtl,h.dhl,(hB.block _ (lt_of_block h.st)).trans h.st,h.on.below hB,(hB.block _ (lt_of_block h.ke)).trans h.ke,h.ka,h.kt,h.kh,h.kl,h.ks,h.bl.trans (hB.mono (Nat.le_trans h.s1 (Nat.le_of_lt (lt_of_block h.st)))),Nat.le_trans h.sz hB.size,h.s1,h.s2,h.o1,h.o2⟩
theorem OfI.newk (h:OfI B sb onb kb onA ON ko so sh sl w1 wr va vt vh vl na nt nh nl AT TL HV LS) (o:Obj):OfI B sb onb wr.heap.size onA ON o so sh sl w1 (wr.alloc o) va vt vh vl na nt nh nl AT TL HV LS:=by
 have k:=h.below ((Below.refl _ _).alloc (Nat.le_refl _) o)
 exact⟨k.ea,k.et,k.eh,k.el,k.oa,k.ot,k.oh,k.ol,k.dat,k.dah,k.dal,k.dth,k.dtl,k.dhl,k.st,k.on,heap_alloc_new wr o,fun e=>by have:=(h.oa.lt _ e).2;omega,fun e=>by have:=(h.ot.lt _ e).2;omega,fun e=>by have:=(h.oh.lt _ e).2;omega,fun e=>by have:=(h.ol.lt _ e).2;omega,fun e=>by have:=lt_of_block h.st;omega,k.bl,k.sz,k.s1,k.s2,k.o1,k.o2⟩
theorem OfI.core (h:OfI B sb onb kb onA ON ko so sh sl w1 wr va vt vh vl na nt nh nl AT TL HV LS) {u:Value} (hu:∀g,u.ownBlock=some g→B≤g) (hk:u.ownBlock≠some kb) (hg:wr.grownBy w' u.ownBlock):
  w'.heap[sb]? =some (.cells #[so,.slice none 0 0,sh,sl,.slice none 0 0] 105 (0,0))∧RowF w' (fun b=>b=onb) onA 2 stL Gst.zero ON∧w'.heap[kb]? =some ko∧Below w1.heap.size w1 w'∧B≤w'.heap.size:=by
 refine⟨(hg.block sb (lt_of_block h.st) (fun e=>by have:=hu sb e.symm;have:=h.s2;omega)).trans h.st,h.on.agr (Agr.grown hg fun g e1 e2=> ?_),(hg.block kb (lt_of_block h.ke) (fun e=>hk e.symm)).trans h.ke,h.bl.grown hg h.bl.size (fun b e=> ?_),Nat.le_trans h.sz hg.size⟩
 ·have e2:g=onb:=e2
  have:=hu g e1;have:=h.o1;omega
 ·have:=hu b e;have:=h.s1;have:=h.s2;omega
theorem new_ne {u:Value} {g n cap N P:Nat} (h:u.ownBlock≠some P) (hat:u.ownBlock=some g∨g=N) (hP:P<N):(Value.slice (some ⟨g,0,none⟩) n cap).ownBlock≠some P:=fun e=>by
 have e:some g=some P:=e
 cases e
 rcases hat with h1|h1
 ·exact h h1
 ·omega
theorem OfI.app_a (h:OfI B sb onb kb onA ON ko so sh sl w1 wr va vt vh vl na nt nh nl AT TL HV LS) {g cap:Nat} (x:Gid) (ho:w'.ownsRow B 108 3 (.slice (some ⟨g,0,none⟩) (na+1) cap) (na+1) (AT.flatMap idL++idL x)) (hg:wr.grownBy w' va.ownBlock) (hat:va.ownBlock=some g∨g=wr.heap.size):
  OfI B sb onb kb onA ON ko so sh sl w1 w' (.slice (some ⟨g,0,none⟩) (na+1) cap) vt vh vl (na+1) nt nh nl (AT++[x]) TL HV LS:=by
 obtain⟨c1,c2,c3,c4,c5⟩:=h.core (fun b e=>(h.oa.lt b e).1) h.ka hg
 exact⟨by rw[List.length_append,←h.ea];rfl,h.et,h.eh,h.el,by rw[List.flatMap_append];simpa using ho,h.ot.kept hg h.dat.symm.kept,h.oh.kept hg h.dah.symm.kept,h.ol.kept hg h.dal.symm.kept,
  h.dat.new hat (fun b e=>(h.ot.lt b e).2),h.dah.new hat (fun b e=>(h.oh.lt b e).2),h.dal.new hat (fun b e=>(h.ol.lt b e).2),h.dth,h.dtl,h.dhl,c1,c2,c3,new_ne h.ka hat (lt_of_block h.ke),h.kt,h.kh,h.kl,h.ks,c4,c5,h.s1,h.s2,h.o1,h.o2⟩
theorem OfI.app_t (h:OfI B sb onb kb onA ON ko so sh sl w1 wr va vt vh vl na nt nh nl AT TL HV LS) {g cap:Nat} (x:Plc) (ho:w'.ownsRow B 161 8 (.slice (some ⟨g,0,none⟩) (nt+1) cap) (nt+1) (TL.flatMap plcL++plcL x)) (hg:wr.grownBy w' vt.ownBlock) (hat:vt.ownBlock=some g∨g=wr.heap.size):
  OfI B sb onb kb onA ON ko so sh sl w1 w' va (.slice (some ⟨g,0,none⟩) (nt+1) cap) vh vl na (nt+1) nh nl AT (TL++[x]) HV LS:=by
 obtain⟨c1,c2,c3,c4,c5⟩:=h.core (fun b e=>(h.ot.lt b e).1) h.kt hg
 exact⟨h.ea,by rw[List.length_append,←h.et];rfl,h.eh,h.el,h.oa.kept hg h.dat.kept,by rw[List.flatMap_append];simpa using ho,h.oh.kept hg h.dth.symm.kept,h.ol.kept hg h.dtl.symm.kept,
  (h.dat.symm.new hat (fun b e=>(h.oa.lt b e).2)).symm,h.dah,h.dal,h.dth.new hat (fun b e=>(h.oh.lt b e).2),h.dtl.new hat (fun b e=>(h.ol.lt b e).2),h.dhl,c1,c2,c3,h.ka,new_ne h.kt hat (lt_of_block h.ke),h.kh,h.kl,h.ks,c4,c5,h.s1,h.s2,h.o1,h.o2⟩
theorem OfI.app_h (h:OfI B sb onb kb onA ON ko so sh sl w1 wr va vt vh vl na nt nh nl AT TL HV LS) {g cap:Nat} (x:Dt) (ho:w'.ownsRow B 163 5 (.slice (some ⟨g,0,none⟩) (nh+1) cap) (nh+1) (HV.flatMap dtL++dtL x)) (hg:wr.grownBy w' vh.ownBlock) (hat:vh.ownBlock=some g∨g=wr.heap.size):
  OfI B sb onb kb onA ON ko so sh sl w1 w' va vt (.slice (some ⟨g,0,none⟩) (nh+1) cap) vl na nt (nh+1) nl AT TL (HV++[x]) LS:=by
 obtain⟨c1,c2,c3,c4,c5⟩:=h.core (fun b e=>(h.oh.lt b e).1) h.kh hg
 exact⟨h.ea,h.et,by rw[List.length_append,←h.eh];rfl,h.el,h.oa.kept hg h.dah.kept,h.ot.kept hg h.dth.kept,by rw[List.flatMap_append];simpa using ho,h.ol.kept hg h.dhl.symm.kept,
  h.dat,(h.dah.symm.new hat (fun b e=>(h.oa.lt b e).2)).symm,h.dal,(h.dth.symm.new hat (fun b e=>(h.ot.lt b e).2)).symm,h.dtl,h.dhl.new hat (fun b e=>(h.ol.lt b e).2),c1,c2,c3,h.ka,h.kt,new_ne h.kh hat (lt_of_block h.ke),h.kl,h.ks,c4,c5,h.s1,h.s2,h.o1,h.o2⟩
theorem OfI.app_l (h:OfI B sb onb kb onA ON ko so sh sl w1 wr va vt vh vl na nt nh nl AT TL HV LS) {g cap:Nat} (x:Dt) (ho:w'.ownsRow B 163 5 (.slice (some ⟨g,0,none⟩) (nl+1) cap) (nl+1) (LS.flatMap dtL++dtL x)) (hg:wr.grownBy w' vl.ownBlock) (hat:vl.ownBlock=some g∨g=wr.heap.size):
  OfI B sb onb kb onA ON ko so sh sl w1 w' va vt vh (.slice (some ⟨g,0,none⟩) (nl+1) cap) na nt nh (nl+1) AT TL HV (LS++[x]):=by
 obtain⟨c1,c2,c3,c4,c5⟩:=h.core (fun b e=>(h.ol.lt b e).1) h.kl hg
 exact⟨h.ea,h.et,h.eh,by rw[List.length_append,←h.el];rfl,h.oa.kept hg h.dal.kept,h.ot.kept hg h.dtl.kept,h.oh.kept hg h.dhl.kept,by rw[List.flatMap_append];simpa using ho,
  h.dat,h.dah,(h.dal.symm.new hat (fun b e=>(h.oa.lt b e).2)).symm,h.dth,(h.dtl.symm.new hat (fun b e=>(h.ot.lt b e).2)).symm,(h.dhl.symm.new hat (fun b e=>(h.oh.lt b e).2)).symm,c1,c2,c3,h.ka,h.kt,h.kh,new_ne h.kl hat (lt_of_block h.ke),h.ks,c4,c5,h.s1,h.s2,h.o1,h.o2⟩
theorem OfI.put (h:OfI B sb onb kb onA ON ko so sh sl w1 wr va vt vh vl na nt nh nl AT TL HV LS) (i:Nat) (v:Value) {so' sh' sl':Value} (hc:(#[so,.slice none 0 0,sh,sl,.slice none 0 0]:Array Value).setIfInBounds i v=#[so',.slice none 0 0,sh',sl',.slice none 0 0]):
  OfI B sb onb kb onA ON ko so' sh' sl' w1 (wr.setCell ⟨sb,i,none⟩ v) va vt vh vl na nt nh nl AT TL HV LS:=by
 have hg:=gby_set (w:=wr) sb i v
 have ne:∀{u:Value} {E s n:Nat} {xs:List Value},wr.ownsRow B E s u n xs→u.ownBlock=none∨u.ownBlock≠some sb:=fun ho=> .inr fun e=>by have:=(ho.lt _ e).1;have:=h.s2;omega
 exact⟨h.ea,h.et,h.eh,h.el,h.oa.kept hg (ne h.oa),h.ot.kept hg (ne h.ot),h.oh.kept hg (ne h.oh),h.ol.kept hg (ne h.ol),h.dat,h.dah,h.dal,h.dth,h.dtl,h.dhl,set_obj h.st i v hc,
  h.on.agr (Agr.grown hg fun g e1 e2=>by cases e1;exact h.o2 (show sb=onb from e2).symm),(hg.block kb (lt_of_block h.ke) (fun e=>by cases e;exact h.ks rfl)).trans h.ke,h.ka,h.kt,h.kh,h.kl,h.ks,h.bl.grown hg h.bl.size (fun b e=>by cases e;exact h.s1),Nat.le_trans h.sz hg.size,h.s1,h.s2,h.o1,h.o2⟩
end
def oAt (b:Bool) (s:Gst) (ops:List Gop) (i:Nat):List Gid:=if ((decide ((ops.getD i (opO 0 .zero)).kind=0)) || (decide ((ops.getD i (opO 0 .zero)).kind=1) && b))=true then [⟨s,(i:Int)⟩] else []
def oTl (b:Bool) (ops:List Gop) (i:Nat):List Plc:=if ((decide ((ops.getD i (opO 0 .zero)).kind=0)) || (decide ((ops.getD i (opO 0 .zero)).kind=1) && b))=true then [⟨(ops.getD i (opO 0 .zero)).node,(ops.getD i (opO 0 .zero)).parent,(ops.getD i (opO 0 .zero)).name,(ops.getD i (opO 0 .zero)).dir⟩] else []
def oHv (b:Bool) (s:Gst) (ops:List Gop) (i:Nat):List Dt:=if (b && !(decide ((ops.getD i (opO 0 .zero)).kind=2)))=true then [⟨(ops.getD i (opO 0 .zero)).node,s⟩] else []
def oLs (b:Bool) (ops:List Gop) (i:Nat):List Dt:=if b=true then (ops.getD i (opO 0 .zero)).dots.map (fun d=>⟨(ops.getD i (opO 0 .zero)).node,d⟩) else []
def upto {α:Type} (f:Nat→List α) (n:Nat):List α:=(List.range n).flatMap f
theorem upto_succ {α:Type} (f:Nat→List α) (n:Nat):upto f (n+1)=upto f n++f n:=by
 unfold upto
 rw[List.range_succ,List.flatMap_append];simp
def onB (ON:List Gst) (s:Gst):Bool:=ON.any (fun y=>y.eqb s)
def gAt (ON:List Gst) (L:List (Grp×GrX)) (k:Nat):List Gid:=upto (oAt (onB ON (L.getD k gp0).1.s) (L.getD k gp0).1.s (L.getD k gp0).1.ops) (L.getD k gp0).1.ops.length
def gTl (ON:List Gst) (L:List (Grp×GrX)) (k:Nat):List Plc:=upto (oTl (onB ON (L.getD k gp0).1.s) (L.getD k gp0).1.ops) (L.getD k gp0).1.ops.length
def gHv (ON:List Gst) (L:List (Grp×GrX)) (k:Nat):List Dt:=upto (oHv (onB ON (L.getD k gp0).1.s) (L.getD k gp0).1.s (L.getD k gp0).1.ops) (L.getD k gp0).1.ops.length
def gLs (ON:List Gst) (L:List (Grp×GrX)) (k:Nat):List Dt:=upto (oLs (onB ON (L.getD k gp0).1.s) (L.getD k gp0).1.ops) (L.getD k gp0).1.ops.length
def onG (L:List (Grp×GrX)):List Gst:=onS (L.map hdOf)
def haveL (L:List (Grp×GrX)):List Dt:=upto (gHv (onG L) L) L.length
def lostL (L:List (Grp×GrX)):List Dt:=upto (gLs (onG L) L) L.length
theorem slid_perm {α:Type} (L:List α) (x:α) (k:Nat):(slid L x k).Perm (x::L):=by
 unfold slid
 refine List.perm_middle.trans ?_
 rw[List.take_append_drop]
theorem insB_perm {α:Type} (p:α→Bool) (z:α) (L:List α) (x:α):(insB p z L x).Perm (x::L):=slid_perm _ _ _
theorem insB_mem {α:Type} {p:α→Bool} {z:α} {L:List α} {x y:α}:y∈insB p z L x↔y=x∨y∈L:=by
 rw[(insB_perm p z L x).mem_iff,List.mem_cons]
theorem stepT_mem {out:List Told} {x y:Told} (h:y∈stepT out x):y=x∨y∈out:=by
 unfold stepT at h
 split at h
 ·exact .inr h
 ·exact insB_mem.1 h
theorem sortT_mem':∀(l:List Told) {out:List Told} {y:Told},y∈l.foldl stepT out→y∈l∨y∈out
 | [],out,y,h=> .inr h
 | x::l,out,y,h=>by
  rcases sortT_mem' l h with h1|h1
  ·exact .inl (by simp[h1])
  ·rcases stepT_mem h1 with rfl|h2
   ·exact .inl (by simp)
   ·exact .inr h2
theorem stepP_name {out:List Plc} {x:Told} {p:Plc} (h:p∈stepP out x):p.name=x.p.name∨p∈out:=by
 unfold stepP at h
 split at h
 ·exact .inr h
 ·split at h
  ·rcases List.mem_or_eq_of_mem_set h with h1|rfl
   ·exact .inr h1
   ·exact .inl rfl
  ·rcases insB_mem.1 h with rfl|h1
   ·exact .inl rfl
   ·exact .inr h1
theorem foldP_name:∀(l:List Told) {out:List Plc} {p:Plc},p∈l.foldl stepP out→(∃x∈l,p.name=x.p.name)∨p∈out
 | [],out,p,h=> .inr h
 | x::l,out,p,h=>by
  rcases foldP_name l h with⟨y,hy,e⟩|h1
  ·exact .inl ⟨y,by simp[hy],e⟩
  ·rcases stepP_name h1 with e|h2
   ·exact .inl ⟨x,by simp,e⟩
   ·exact .inr h2
theorem replay_name {l:List Told} {p:Plc} (h:p∈replayL l):∃x∈l,p.name=x.p.name:=by
 rcases foldP_name _ h with⟨x,hx,e⟩|h1
 ·rcases sortT_mem' l hx with h2|h2
  ·exact⟨x,h2,e⟩
  ·cases h2
 ·cases h1
theorem made_name {L:List (Grp×GrX)} {P:List Plc} {q:Plc} (h:q∈madeL L P):∃p∈P,q.name=p.name:=by
 unfold madeL at h
 rw[List.mem_flatMap] at h
 obtain⟨p,hp,h⟩:=h
 unfold madeP at h
 rw[List.mem_flatMap] at h
 obtain⟨g,hg,h⟩:=h
 unfold opsM at h
 rw[List.mem_map] at h
 obtain⟨o,ho,rfl⟩:=h
 exact⟨p,hp,rfl⟩
theorem opsM_len (p:Plc) (l:List Gop):(opsM p l).length≤l.length:=by
 unfold opsM;rw[List.length_map];exact List.length_filter_le _ _
theorem madeP_len (p:Plc):∀(L:List (Grp×GrX)),(∀g∈L,g.1.ops.length≤2)→(madeP L p).length≤2*L.length
 | [],_=>Nat.le_refl _
 |g::L,h=>by
  have h1:=madeP_len p L fun x hx=>h x (by simp[hx])
  have h2:=h g (by simp)
  have h3:=opsM_len p g.1.ops
  unfold madeP at h1 ⊢
  rw[List.flatMap_cons,List.length_append,List.length_cons]
  omega
theorem madeL_len (L:List (Grp×GrX)) (h:∀g∈L,g.1.ops.length≤2):∀(P:List Plc),(madeL L P).length≤2*L.length*P.length
 | []=>Nat.zero_le _
 |p::P=>by
  have h1:=madeL_len L h P
  have h2:=madeP_len p L h
  unfold madeL at h1 ⊢
  rw[List.flatMap_cons,List.length_append,List.length_cons,Nat.mul_add,Nat.mul_one]
  omega
theorem upto_map {α β:Type} (f:Nat→List α) (g:α→β) (n:Nat):(upto f n).map g=upto (fun i=>(f i).map g) n:=by
 unfold upto;rw[List.map_flatMap]
theorem upto_congr {α:Type} {f g:Nat→List α} {n:Nat} (h:∀i,f i=g i):upto f n=upto g n:=by
 have:f=g:=funext h
 rw[this]
def oTo (b:Bool) (s:Gst) (ops:List Gop) (i:Nat):List Told:=if ((decide ((ops.getD i (opO 0 .zero)).kind=0)) || (decide ((ops.getD i (opO 0 .zero)).kind=1) && b))=true then [⟨⟨s,(i:Int)⟩,⟨(ops.getD i (opO 0 .zero)).node,(ops.getD i (opO 0 .zero)).parent,(ops.getD i (opO 0 .zero)).name,(ops.getD i (opO 0 .zero)).dir⟩⟩] else []
def gTo (ON:List Gst) (L:List (Grp×GrX)) (k:Nat):List Told:=upto (oTo (onB ON (L.getD k gp0).1.s) (L.getD k gp0).1.s (L.getD k gp0).1.ops) (L.getD k gp0).1.ops.length
theorem gTo_a (ON:List Gst) (L:List (Grp×GrX)) (n:Nat):(upto (gTo ON L) n).map (·.a)=upto (gAt ON L) n:=by
 rw[upto_map]
 refine upto_congr fun i=> ?_
 unfold gTo gAt
 rw[upto_map]
 refine upto_congr fun j=> ?_
 unfold oTo oAt
 split<;>rfl
theorem gTo_p (ON:List Gst) (L:List (Grp×GrX)) (n:Nat):(upto (gTo ON L) n).map (·.p)=upto (gTl ON L) n:=by
 rw[upto_map]
 refine upto_congr fun i=> ?_
 unfold gTo gTl
 rw[upto_map]
 refine upto_congr fun j=> ?_
 unfold oTo oTl
 split<;>rfl
def toldG (L:List (Grp×GrX)):List Told:=upto (gTo (onG L) L) L.length
def placeG (L:List (Grp×GrX)):List Plc:=madeL L (replayL (toldG L))
def liveG (L:List (Grp×GrX)):List Gid:=liveL (lostL L) (haveL L)
def itemsG (L:List (Grp×GrX)):List Itm:=itemsL (placeG L).length (placeG L) (liveG L)
theorem upto_mem {α:Type} {f:Nat→List α} {n:Nat} {x:α}:x∈upto f n↔∃i,i<n∧x∈f i:=by
 unfold upto
 rw[List.mem_flatMap]
 exact⟨fun ⟨i,h1,h2⟩=>⟨i,List.mem_range.1 h1,h2⟩,fun ⟨i,h1,h2⟩=>⟨i,List.mem_range.2 h1,h2⟩⟩
theorem toldG_in {ON:List Gst} {L:List (Grp×GrX)} {x:Told} {n:Nat} (hn:n≤L.length) (h:x∈upto (gTo ON L) n):∃g∈L,∃o∈g.1.ops,(o.kind=0∨o.kind=1)∧x.p=⟨o.node,o.parent,o.name,o.dir⟩∧x.a.s=g.1.s:=by
 obtain⟨k,hk,h⟩:=upto_mem.1 h
 unfold gTo at h
 obtain⟨j,hj,h⟩:=upto_mem.1 h
 unfold oTo at h
 split at h
 ·rename_i c
  rw[List.mem_singleton] at h
  subst h
  refine⟨L.getD k gp0,getD_memF (by omega) _,(L.getD k gp0).1.ops.getD j (opO 0 .zero),getD_memF hj _,?_,rfl,rfl⟩
  simp only[Bool.or_eq_true,Bool.and_eq_true,decide_eq_true_eq] at c
  rcases c with c|c
  ·exact .inl c
  ·exact .inr c.1
 ·cases h
theorem opsB_mem9 {s:Gst}:∀(l:List Gop) (k:Nat),opsB s l k=true→∀o∈l,∃q,opB s o q=true
 | [],_,_,o,ho=>by cases ho
 |x::l,k,h,o,ho=>by
  simp only[opsB,Bool.and_eq_true] at h
  rcases List.mem_cons.1 ho with rfl|ho
  ·exact⟨k,h.1⟩
  ·exact opsB_mem9 l _ h.2 o ho
theorem chk_op {g:Grp} (h:chkB g=true) {o:Gop} (ho:o∈g.ops):∃q,opB g.s o q=true:=by
 simp only[chkB,Bool.and_eq_true] at h
 have h:=h.2
 split at h
 ·simp only[Bool.and_eq_true] at h
  exact opsB_mem9 _ _ h.2 o ho
 ·simp only[Bool.and_eq_true,decide_eq_true_eq] at h
  rw[List.eq_nil_of_length_eq_zero h.2] at ho
  cases ho
theorem op_name {s:Gst} {o:Gop} {q:Nat} (h:opB s o q=true) (hk:o.kind=0∨o.kind=1):nameB o.name=true:=by
 simp only[opB,Bool.and_eq_true] at h
 have h:=h.2
 unfold kindB at h
 rcases hk with hk|hk
 ·rw[if_pos hk] at h
  simp only[Bool.and_eq_true] at h
  exact h.2
 ·rw[if_neg (by omega),if_pos hk] at h
  simp only[Bool.and_eq_true] at h
  exact h.2
theorem name_size {s:ByteArray} (h:nameB s=true):s.size≤32:=by
 simp only[nameB,Bool.and_eq_true,decide_eq_true_eq] at h
 exact h.1.1.1.2
theorem placeG_name {L:List (Grp×GrX)} (hck:∀p∈L,chkB p.1=true) {q:Plc} (h:q∈placeG L):q.name.size≤32:=by
 obtain⟨p,hp,e⟩:=made_name h
 obtain⟨x,hx,e2⟩:=replay_name hp
 obtain⟨g,hg,o,ho,hk,e3,-⟩:=toldG_in (Nat.le_refl _) hx
 obtain⟨c,hc⟩:=chk_op (hck g hg) ho
 rw[e,e2,e3]
 exact name_size (op_name hc hk)
theorem placeG_len {L:List (Grp×GrX)} (hl:L.length≤20) (hlo:∀p∈L,p.1.ops.length≤2) (ht:(toldG L).length≤40):(placeG L).length≤1600:=by
 have h1:=madeL_len L hlo (replayL (toldG L))
 have h2:=replayL_len (toldG L)
 have h3:(replayL (toldG L)).length≤40:=Nat.le_trans h2 ht
 have h4:2*L.length*(replayL (toldG L)).length≤40*40:=Nat.mul_le_mul (by omega) h3
 unfold placeG
 omega
theorem items_ok (L:List (Grp×GrX)):∀p∈seenP (placeG L) (liveG L),p.name.size≤1000∧climbs (seenP (placeG L) (liveG L)) (placeG L).length p=true:=fun p hp=>by
 obtain⟨h1,h2⟩:=seen_climbs (placeG L) (liveG L) (placeG L).length (by omega) p hp
 exact⟨by have:=name_size h1;omega,h2⟩
structure Ord (α:Type) (lt:α→α→Bool):Prop where
 irr:∀a,lt a a=false
 tr:∀a b c,lt a b=true→lt b c=true→lt a c=true
 tot:∀a b,lt a b=true∨a=b∨lt b a=true
def rises {α:Type} (lt:α→α→Bool) (l:List α):Prop:=l.Pairwise fun a b=>lt a b=true
theorem insIx_spec {α:Type} (p:α→Bool) (z:α) (L:List α):∀n,n≤L.length→(∀j,insIx p z L n≤j→j<n→p (L.getD j z)=true)∧(∀k,insIx p z L n=k+1→p (L.getD k z)=false)
 |0,_=>⟨fun j _ h=>by omega,fun k h=>by simp[insIx] at h⟩
 | n+1,hn=>by
  by_cases hp:p (L.getD n z)=true
  ·rw[insIx_go hp]
   obtain⟨i1,i2⟩:=insIx_spec p z L n (by omega)
   refine⟨fun j h1 h2=> ?_,i2⟩
   rcases Nat.lt_or_ge j n with h3|h3
   ·exact i1 j h1 h3
   ·obtain rfl:j=n:=by omega
    exact hp
  ·have e:insIx p z L (n+1)=n+1:=insIx_stop (.inr ⟨n,rfl,by simpa using hp⟩)
   rw[e]
   refine⟨fun j h1 h2=>by omega,fun k h=> ?_⟩
   obtain rfl:k=n:=by omega
   simpa using hp
theorem rises_ins {α:Type} {lt:α→α→Bool} (h:Ord α lt) {L:List α} (hL:rises lt L) {x z:α} (hx:x∉ L):rises lt (insB (fun y=>lt x y) z L x):=by
 obtain⟨i1,i2⟩:=insIx_spec (fun y=>lt x y) z L L.length (Nat.le_refl _)
 have hk:=insIx_le (fun y=>lt x y) z L L.length
 unfold insB
 generalize insIx (fun y=>lt x y) z L L.length=k at *
 unfold slid rises
 have hsp:=hL
 unfold rises at hsp
 have get:∀j (hj:j<L.length),L.getD j z=L[j]:=fun j hj=>by rw[List.getD_eq_getElem?_getD,List.getElem?_eq_getElem hj];rfl
 rw[List.pairwise_append,List.pairwise_cons]
 have hup:∀y∈L.drop k,lt x y=true:=fun y hy=>by
  obtain⟨i,hi,rfl⟩:=List.mem_iff_getElem.1 hy
  rw[List.getElem_drop,←get _ (by rw[List.length_drop] at hi;omega)]
  rw[List.length_drop] at hi
  exact i1 (k+i) (by omega) (by omega)
 have hlo:∀y∈L.take k,lt y x=true:=fun y hy=>by
  obtain⟨i,hi,rfl⟩:=List.mem_iff_getElem.1 hy
  rw[List.length_take] at hi
  rw[List.getElem_take]
  obtain⟨q,rfl⟩:∃q,k=q+1:=⟨k-1,by omega⟩
  have h1:=i2 q rfl
  rw[get q (by omega)] at h1
  have h2:lt L[q] x=true:=by
   rcases h.tot L[q] x with h3|h3|h3
   ·exact h3
   ·exact absurd (h3 ▸ List.getElem_mem _) hx
   ·rw[h3] at h1;cases h1
  rcases Nat.lt_or_ge i q with h4|h4
  ·exact h.tr _ _ _ (List.pairwise_iff_getElem.1 hsp i q (by omega) (by omega) h4) h2
  ·obtain rfl:i=q:=by omega
   exact h2
 refine⟨hsp.sublist (List.take_sublist _ _),⟨hup,hsp.sublist (List.drop_sublist _ _)⟩,fun a ha b hb=> ?_⟩
 rcases List.mem_cons.1 hb with rfl|hb
 ·exact hlo a ha
 ·exact h.tr _ _ _ (hlo a ha) (hup b hb)
theorem rises_at {α:Type} {lt:α→α→Bool} {L:List α} (hL:rises lt L) {i:Nat} (hi:i<L.length) (h0:0<i) (z:α):lt (L.getD (i-1) z) (L.getD i z)=true:=by
 have get:∀j (hj:j<L.length),L.getD j z=L[j]:=fun j hj=>by rw[List.getD_eq_getElem?_getD,List.getElem?_eq_getElem hj];rfl
 rw[get i hi,get (i-1) (by omega)]
 exact List.pairwise_iff_getElem.1 hL (i-1) i (by omega) hi (by omega)
theorem gst_ord:Ord Gst Gst.lt:=by
 refine⟨fun a=> ?_,fun a b c=> ?_,fun a b=> ?_⟩
 ·simp[Gst.lt]
 ·simp only[Gst.lt,Bool.or_eq_true,Bool.and_eq_true,decide_eq_true_eq];omega
 ·obtain⟨a,b⟩:=a
  rename_i b'
  obtain⟨c,d⟩:=b'
  simp only[Gst.lt,Bool.or_eq_true,Bool.and_eq_true,decide_eq_true_eq,Gst.mk.injEq];omega
theorem gid_ord:Ord Gid Gid.lt:=by
 refine⟨fun a=> ?_,fun a b c=> ?_,fun a b=> ?_⟩
 ·simp[Gid.lt,gst_ord.irr]
 ·obtain⟨⟨a1,a2⟩,a3⟩:=a
  obtain⟨⟨b1,b2⟩,b3⟩:=b
  obtain⟨⟨c1,c2⟩,c3⟩:=c
  simp only[Gid.lt,Gst.lt,Gst.eqb,Bool.or_eq_true,Bool.and_eq_true,decide_eq_true_eq];omega
 ·obtain⟨⟨a1,a2⟩,a3⟩:=a
  obtain⟨⟨b1,b2⟩,b3⟩:=b
  simp only[Gid.lt,Gst.lt,Gst.eqb,Bool.or_eq_true,Bool.and_eq_true,decide_eq_true_eq,Gid.mk.injEq,Gst.mk.injEq];omega
structure KnG (L:List (Grp×GrX)) (s:Gst):Prop where
 chk:∀p∈L,chkB p.1=true
 nd:(L.map (·.1.s)).Nodup
 lt:∀p∈L,p.1.s.lt s=true
 sr:s.right=true
 len:L.length≤16
 one:∀p∈L,p.1.ops.length≤1
 sml:∀p∈L,∀o∈p.1.ops,o.dots.length≤16∧o.text.size≤2
def known1 (L:List (Grp×GrX)) (x:Gid):Prop:=∃p∈L,x.s=p.1.s∧0≤x.i∧x.i≤400000
theorem KnG.ahead {L:List (Grp×GrX)} {s:Gst} (h:KnG L s) {x:Gid} (hx:known1 L x):aheadB s x 0=true:=by
 obtain⟨p,hp,e,h0,h1⟩:=hx
 have hr:=(chk_right (h.chk p hp)).1
 unfold aheadB Gid.right
 rw[e,hr,h.lt p hp]
 simp[h0,h1]
theorem KnG.parent {L:List (Grp×GrX)} {s:Gst} (h:KnG L s) {x:Gid} (hx:x= .zero∨known1 L x):parentB s x 0=true:=by
 unfold parentB
 rcases hx with rfl|hx
 ·rfl
 ·rw[h.ahead hx,Bool.or_true]
theorem opB_one {g:Grp} (hc:chkB g=true) (h1:g.ops.length≤1) {o:Gop} (ho:o∈g.ops):opB g.s o 0=true:=by
 obtain⟨s,n,d,u,ops⟩:=g
 simp only[chkB,Bool.and_eq_true] at hc
 have hc:=hc.2
 cases ops with
 |nil=>cases ho
 | cons x l=>
  have hl:l=[]:=List.eq_nil_of_length_eq_zero (by simp at h1;simpa using h1)
  subst hl
  rw[List.mem_singleton] at ho
  subst ho
  split at hc
  ·simp only[opsB,Bool.and_eq_true] at hc
   exact hc.2.1
  ·simp at hc
theorem op_node {s:Gst} {o:Gop} (h:opB s o 0=true) (hk:o.kind=0):o.node=⟨s,0⟩:=by
 simp only[opB,Bool.and_eq_true] at h
 have h:=h.2
 unfold kindB at h
 rw[if_pos hk] at h
 simp only[Bool.and_eq_true,Gid.eqb_iff] at h
 exact h.1.1
theorem op_elem {s:Gst} {o:Gop} (h:opB s o 0=true) (hk:o.kind=3):o.elem=⟨s,0⟩:=by
 simp only[opB,Bool.and_eq_true] at h
 have h:=h.2
 unfold kindB at h
 rw[if_neg (by omega),if_neg (by omega),if_neg (by omega),if_pos hk] at h
 simp only[Bool.and_eq_true,Gid.eqb_iff] at h
 exact h.1.2
theorem KnG.nodes {L:List (Grp×GrX)} {s:Gst} (h:KnG L s) (d:Bool):∀x∈nodesL d L,known1 L x:=by
 intro x hx
 unfold nodesL at hx
 rw[List.mem_flatMap] at hx
 obtain⟨p,hp,hx⟩:=hx
 unfold opsN at hx
 rw[List.mem_map] at hx
 obtain⟨o,ho,rfl⟩:=hx
 rw[List.mem_filter] at ho
 obtain⟨ho,hk⟩:=ho
 simp only[Bool.and_eq_true,decide_eq_true_eq] at hk
 rw[op_node (opB_one (h.chk p hp) (h.one p hp) ho) hk.1]
 exact⟨p,hp,rfl,by simp,by simp⟩
theorem pickD_mem (l:List Gid) (n:Nat):pickD l n= .zero∨pickD l n∈l:=by
 unfold pickD
 by_cases h:n % (l.length+1)<l.length
 ·exact .inr (getD_memF h _)
 ·left
  rw[List.getD_eq_getElem?_getD,List.getElem?_eq_none (by omega)];rfl
theorem KnG.pick {L:List (Grp×GrX)} {l:List Gid} (h:∀x∈l,known1 L x) (n:Nat):pickD l n= .zero∨known1 L (pickD l n):=(pickD_mem l n).imp id (h _)
theorem foldE_mem:∀(l out:List Gid) (y:Gid),y∈l.foldl (fun out x=>insB (fun y:Gid=>x.lt y) Gid.zero out x) out↔y∈l∨y∈out
 | [],out,y=>by simp
 | x::l,out,y=>by
  rw[List.foldl_cons,foldE_mem l,insB_mem,List.mem_cons]
  constructor
  ·rintro(h|h|h)
   ·exact .inl (.inr h)
   ·exact .inl (.inl h)
   ·exact .inr h
  ·rintro((h|h)|h)
   ·exact .inr (.inl h)
   ·exact .inl h
   ·exact .inr (.inr h)
theorem sortI_mem {l:List Gid} {y:Gid}:y∈sortI l↔y∈l:=by unfold sortI;rw[foldE_mem];simp
theorem foldE_rises:∀(l out:List Gid),(out++l).Nodup→rises Gid.lt out→rises Gid.lt (l.foldl (fun out x=>insB (fun y:Gid=>x.lt y) Gid.zero out x) out)
 | [],out,_,h=>h
 |x::l,out,hn,h=>by
  have hp:(insB (fun y:Gid=>x.lt y) Gid.zero out x++l).Perm (out++x::l):=((insB_perm _ _ _ _).append_right l).trans List.perm_middle.symm
  refine foldE_rises l _ (hp.nodup_iff.2 hn) (rises_ins gid_ord h fun hx=> ?_)
  rw[List.nodup_append] at hn
  exact hn.2.2 x hx x (by simp) rfl
theorem eltStep_nodup {N:List Gid} {x:Gid} (h:N.Nodup):(eltStep N x).Nodup:=by
 unfold eltStep
 split
 ·exact h
 ·rename_i c
  rw[List.nodup_append]
  refine⟨h,by simp,fun a ha b hb e=>c ?_⟩
  rw[List.mem_singleton] at hb
  subst hb;subst e
  exact List.any_eq_true.2 ⟨a,ha,Gid.eqb_iff.2 rfl⟩
theorem eltStep_mem {N:List Gid} {x y:Gid} (h:y∈eltStep N x):y=x∨y∈N:=by
 unfold eltStep at h
 split at h
 ·exact .inr h
 ·rcases List.mem_append.1 h with h|h
  ·exact .inr h
  ·exact .inl (List.mem_singleton.1 h)
theorem elt1_nodup:∀(l:List Gid) {N:List Gid},N.Nodup→(l.foldl eltStep N).Nodup
 | [],N,h=>h
 |x::l,N,h=>elt1_nodup l (eltStep_nodup h)
theorem elt1_mem:∀(l:List Gid) {N:List Gid} {y:Gid},y∈l.foldl eltStep N→y∈l∨y∈N
 | [],N,y,h=> .inr h
 | x::l,N,y,h=>by
  rcases elt1_mem l h with h|h
  ·exact .inl (by simp[h])
  ·rcases eltStep_mem h with rfl|h
   ·exact .inl (by simp)
   ·exact .inr h
theorem elemIds_nodup (L:List Rn):(elemIds L).Nodup:=by
 have:∀(L:List Rn) (N:List Gid),N.Nodup→(L.foldl (fun N r=>(names r).foldl eltStep N) N).Nodup:=by
  intro L
  induction L with
  |nil=>exact fun N h=>h
  |cons r L ih=>exact fun N h=>ih _ (elt1_nodup _ h)
 exact this L [] List.nodup_nil
theorem elemIds_mem {L:List Rn} {y:Gid} (h:y∈elemIds L):∃r∈L,y∈names r:=by
 have:∀(L:List Rn) (N:List Gid),y∈L.foldl (fun N r=>(names r).foldl eltStep N) N→(∃r∈L,y∈names r)∨y∈N:=by
  intro L
  induction L with
  |nil=>exact fun N h=> .inr h
  | cons r L ih=>
   intro N h
   rcases ih _ h with⟨q,hq,e⟩|h
   ·exact .inl ⟨q,by simp[hq],e⟩
   ·rcases elt1_mem _ h with h|h
    ·exact .inl ⟨r,by simp,h⟩
    ·exact .inr h
 rcases this L [] h with h|h
 ·exact h
 ·cases h
theorem runsL_in {x:Gid} {L:List (Grp×GrX)} {r:Rn} (h:r∈runsL x L):∃p∈L,∃o∈p.1.ops,o.kind=3∧r=⟨o.after,o.elem,o.text⟩:=by
 unfold runsL at h
 rw[List.mem_flatMap] at h
 obtain⟨p,hp,h⟩:=h
 unfold opsR at h
 rw[List.mem_map] at h
 obtain⟨o,ho,rfl⟩:=h
 rw[List.mem_filter] at ho
 simp only[Bool.and_eq_true,decide_eq_true_eq] at ho
 exact⟨p,hp,o,ho.1,ho.2.1,rfl⟩
theorem KnG.run {L:List (Grp×GrX)} {s:Gst} (h:KnG L s) {x:Gid} {r:Rn} (hr:r∈runsL x L):∃p∈L,r.el=⟨p.1.s,0⟩∧r.tx.size≤2:=by
 obtain⟨p,hp,o,ho,hk,rfl⟩:=runsL_in hr
 exact⟨p,hp,op_elem (opB_one (h.chk p hp) (h.one p hp) ho) hk,(h.sml p hp o ho).2⟩
theorem KnG.elems {L:List (Grp×GrX)} {s:Gst} (h:KnG L s) (x:Gid):(∀y∈elemsL L x,known1 L y)∧rises Gid.lt (elemsL L x):=by
 refine⟨fun y hy=> ?_,foldE_rises _ [] (by simpa using elemIds_nodup _) List.Pairwise.nil⟩
 unfold elemsL at hy
 rw[sortI_mem] at hy
 obtain⟨r,hr,hy⟩:=elemIds_mem hy
 obtain⟨p,hp,e,hs⟩:=h.run hr
 unfold names at hy
 rw[List.mem_map] at hy
 obtain⟨k,hk,rfl⟩:=hy
 have hk:=List.mem_range.1 hk
 have:=cntD_le r.tx
 rw[e]
 exact⟨p,hp,rfl,by show(0:Int)≤0+(k:Int);omega,by show(0:Int)+(k:Int)≤400000;omega⟩
theorem opsR_len (x:Gid) (l:List Gop):(opsR x l).length≤l.length:=by
 unfold opsR;rw[List.length_map];exact List.length_filter_le _ _
theorem runsL_len (x:Gid):∀(L:List (Grp×GrX)),(∀p∈L,p.1.ops.length≤1)→(runsL x L).length≤L.length
 | [],_=>Nat.le_refl _
 |p::L,h=>by
  have h1:=runsL_len x L fun q hq=>h q (by simp[hq])
  have h2:=opsR_len x p.1.ops
  have h3:=h p (by simp)
  unfold runsL at h1 ⊢
  rw[List.flatMap_cons,List.length_append,List.length_cons]
  omega
theorem elts_len:∀(l N:List Gid),(l.foldl eltStep N).length≤N.length+l.length
 | [],N=>Nat.le_refl _
 | x::l,N=>by
  have h1:=elts_len l (eltStep N x)
  have h2:(eltStep N x).length≤N.length+1:=by
   unfold eltStep
   split
   ·omega
   ·simp
  rw[List.foldl_cons,List.length_cons]
  omega
theorem elemIds_len:∀(L:List Rn) (N:List Gid),(∀r∈L,r.tx.size≤2)→(L.foldl (fun N r=>(names r).foldl eltStep N) N).length≤N.length+2*L.length
 | [],N,_=>Nat.le_refl _
 |r::L,N,h=>by
  have h1:=elemIds_len L ((names r).foldl eltStep N) fun q hq=>h q (by simp[hq])
  have h2:=elts_len (names r) N
  have h3:=names_len r
  have h4:=cntD_le r.tx
  have h5:=h r (by simp)
  rw[List.foldl_cons,List.length_cons]
  omega
theorem KnG.elemsLen {L:List (Grp×GrX)} {s:Gst} (h:KnG L s) (x:Gid):(elemsL L x).length≤32:=by
 have h1:=elemIds_len (runsL x L) [] fun r hr=>(h.run hr).elim fun p hp=>hp.2.2
 have h2:=runsL_len x L h.one
 have h3:=h.len
 unfold elemsL
 rw[sortI_len]
 unfold elemIds
 simp only[List.length_nil] at h1
 omega
theorem opsN_len (d:Bool) (l:List Gop):(opsN d l).length≤l.length:=by
 unfold opsN;rw[List.length_map];exact List.length_filter_le _ _
theorem nodesL_len (d:Bool):∀(L:List (Grp×GrX)),(∀p∈L,p.1.ops.length≤1)→(nodesL d L).length≤L.length
 | [],_=>Nat.le_refl _
 |p::L,h=>by
  have h1:=nodesL_len d L fun q hq=>h q (by simp[hq])
  have h2:=opsN_len d p.1.ops
  have h3:=h p (by simp)
  unfold nodesL at h1 ⊢
  rw[List.flatMap_cons,List.length_append,List.length_cons]
  omega
theorem haveG_in {ON:List Gst} {L:List (Grp×GrX)} {d:Dt} {n:Nat} (hn:n≤L.length) (h:d∈upto (gHv ON L) n):∃p∈L,d.b=p.1.s:=by
 obtain⟨k,hk,h⟩:=upto_mem.1 h
 unfold gHv at h
 obtain⟨j,hj,h⟩:=upto_mem.1 h
 unfold oHv at h
 split at h
 ·rw[List.mem_singleton] at h
  subst h
  exact⟨L.getD k gp0,getD_memF (by omega) _,rfl⟩
 ·cases h
theorem gHv_len (ON:List Gst) (L:List (Grp×GrX)) (h:∀p∈L,p.1.ops.length≤1):∀n,n≤L.length→(upto (gHv ON L) n).length≤n
 |0,_=>Nat.zero_le _
 | n+1,hn=>by
  rw[upto_succ,List.length_append]
  have h1:=gHv_len ON L h n (by omega)
  have h2:=h _ (getD_memF (show n<L.length by omega) gp0)
  have h3:(gHv ON L n).length≤1:=by
   unfold gHv
   rcases(show(L.getD n gp0).1.ops.length=0∨(L.getD n gp0).1.ops.length=1 by omega) with e|e
   ·rw[e];exact Nat.zero_le _
   ·rw[e,upto_succ]
    show([]++_:List Dt).length≤1
    unfold oHv
    split<;>simp
  omega
theorem stepO_mem {G:List Dt} {x:Gid} {out:List Gst} {d:Dt} {y:Gst} (h:y∈stepO G x out d):y=d.b∨y∈out:=by
 unfold stepO at h
 split at h
 ·exact .inr h
 ·exact insB_mem.1 h
theorem ofL_mem {G:List Dt} {x:Gid}:∀(l:List Dt) {out:List Gst} {y:Gst},y∈l.foldl (stepO G x) out→(∃d∈l,y=d.b)∨y∈out
 | [],out,y,h=> .inr h
 | d::l,out,y,h=>by
  rcases ofL_mem l h with⟨e,he,h1⟩|h1
  ·exact .inl ⟨e,by simp[he],h1⟩
  ·rcases stepO_mem h1 with h2|h2
   ·exact .inl ⟨d,by simp,h2⟩
   ·exact .inr h2
theorem stepO_rises {G:List Dt} {x:Gid} {out:List Gst} {d:Dt} (h:rises Gst.lt out):rises Gst.lt (stepO G x out d):=by
 unfold stepO
 split
 ·exact h
 ·rename_i c
  refine rises_ins gst_ord h fun hx=>c ?_
  rw[Bool.or_eq_true]
  exact .inr (List.any_eq_true.2 ⟨_,hx,Gst.eqb_iff.2 rfl⟩)
theorem ofL_rises {G:List Dt} {x:Gid}:∀(l:List Dt) {out:List Gst},rises Gst.lt out→rises Gst.lt (l.foldl (stepO G x) out)
 | [],out,h=>h
 |d::l,out,h=>ofL_rises l (stepO_rises h)
theorem KnG.dots {L:List (Grp×GrX)} {s:Gst} (h:KnG L s) (y:Gid):dotsB s (ofL (lostL L) y (haveL L))=true∧(ofL (lostL L) y (haveL L)).length≤16:=by
 have hr:rises Gst.lt (ofL (lostL L) y (haveL L)):=ofL_rises _ List.Pairwise.nil
 have hm:∀d∈ofL (lostL L) y (haveL L),∃p∈L,d=p.1.s:=fun d hd=>by
  rcases ofL_mem _ hd with⟨e,he,h1⟩|h1
  ·obtain⟨p,hp,h2⟩:=haveG_in (Nat.le_refl _) he
   exact⟨p,hp,by rw[h1,h2]⟩
  ·cases h1
 have hl:(ofL (lostL L) y (haveL L)).length≤16:=by
  have h1:=ofL_len (lostL L) y (haveL L) []
  have h2:=gHv_len (onG L) L h.one L.length (Nat.le_refl _)
  have h3:=h.len
  unfold ofL
  unfold haveL at h1 ⊢
  simp only[List.length_nil] at h1
  omega
 refine⟨?_,hl⟩
 unfold dotsB
 rw[Bool.and_eq_true,decide_eq_true_eq]
 refine⟨allIx_true fun i hi=> ?_,by omega⟩
 obtain⟨p,hp,e⟩:=hm _ (getD_memF hi .zero)
 have h0:=hr
 unfold dotB
 rw[Bool.and_eq_true,Bool.and_eq_true]
 refine⟨⟨?_,?_⟩,?_⟩
 ·rw[e];exact(chk_right (h.chk p hp)).1
 ·rw[e]
  have h1:=h.lt p hp
  cases h2:s.lt p.1.s with
  |false=>rfl
  |true=>have:=gst_ord.tr _ _ _ h1 h2;rw[gst_ord.irr] at this;cases this
 ·rcases Nat.eq_zero_or_pos i with h1|h1
  ·simp[h1]
  ·rw[rises_at h0 hi h1,Bool.or_true]
def nmB (b:Nat):ByteArray:=⟨#[UInt8.ofNat (97+b % 3)]⟩
def txB2 (c:Nat):ByteArray:=⟨(([117,118,119,120,121,122]:List UInt8).drop (c % 5) |>.take (1+c % 2)).toArray⟩
theorem nmB_ok (b:Nat):nameB (nmB b)=true∧(nmB b).size=1:=by
 unfold nmB
 rcases(show b % 3=0∨b % 3=1∨b % 3=2 by omega) with e|e|e<;>rw[e]<;>exact⟨by rfl,by rfl⟩
theorem bsl (a:ByteArray):a.data.toList.length=a.size:=by simp
theorem all128:∀b∈([117,118,119,120,121,122]:List UInt8),b.toNat<128:=by decide
theorem txB2_ok (c:Nat):textB (txB2 c)=true∧(txB2 c).size≤2∧(txB2 c).data.toList≠[]:=by
 have hsz:1≤(txB2 c).size∧(txB2 c).size≤2:=by
  have e:(txB2 c).size=((([117,118,119,120,121,122]:List UInt8).drop (c % 5)).take (1+c % 2)).length:=by simp[txB2,ByteArray.size]
  rw[e,List.length_take,List.length_drop]
  simp only[List.length_cons,List.length_nil]
  omega
 have has:∀b∈(txB2 c).data.toList,b.toNat<128:=fun b hb=>by
  unfold txB2 at hb
  simp only at hb
  exact all128 b (List.mem_of_mem_drop (List.mem_of_mem_take hb))
 have hcnt:runeCount (txB2 c)=(txB2 c).size:=runeCount_ascii _ fun j hj=>has _ (by
  show(txB2 c).data[j]∈_
  rw[Array.mem_toList_iff]
  exact Array.getElem_mem _)
 have hlen:(txB2 c).data.toList.length=(txB2 c).size:=bsl _
 refine⟨?_,hsz.2,fun e=>by rw[e] at hlen;have hlen:0=(txB2 c).size:=hlen;omega⟩
 unfold textB
 rw[hcnt,validD_ascii (txB2 c).data.toList.length _ (fun b hb=>has b (List.mem_of_mem_take hb)),List.drop_length]
 simp only[Bool.and_eq_true,decide_eq_true_eq]
 exact⟨⟨rfl,hsz.1⟩,by omega⟩
structure OpOk (s:Gst) (o:Gop):Prop where
 ok:opB s o 0=true
 dl:o.dots.length≤16
 el:o.elems.length≤3
 tl:o.text.size≤2
 nl:o.name.size≤1
theorem e0:(⟨#[]⟩:ByteArray).data.toList=[]:=rfl
theorem KnG.make {L:List (Grp×GrX)} {s:Gst} (h:KnG L s) {x:Gid} (hx:x= .zero∨known1 L x) (b:Nat) (d:Bool):OpOk s ⟨0,⟨s,0⟩,x,nmB b,d,[],.zero,.zero,⟨#[]⟩,[]⟩:=by
 refine⟨?_,Nat.zero_le _,Nat.zero_le _,Nat.zero_le _,Nat.le_of_eq (nmB_ok b).2⟩
 simp[opB,bareB,kindB,Gid.none,(nmB_ok b).1,h.parent hx,Gid.eqb_iff]
theorem KnG.move {L:List (Grp×GrX)} {s:Gst} (h:KnG L s) {x y:Gid} (hx:x= .zero∨known1 L x) (hy:known1 L y) (b:Nat):OpOk s ⟨1,y,x,nmB b,false,[],.zero,.zero,⟨#[]⟩,[]⟩:=by
 refine⟨?_,Nat.zero_le _,Nat.zero_le _,Nat.zero_le _,Nat.le_of_eq (nmB_ok b).2⟩
 simp[opB,bareB,kindB,Gid.none,(nmB_ok b).1,h.parent hx,h.ahead hy,Gid.eqb_iff]
theorem KnG.drop {L:List (Grp×GrX)} {s:Gst} (h:KnG L s) {y:Gid} (hy:known1 L y):OpOk s ⟨2,y,.zero,⟨#[]⟩,false,ofL (lostL L) y (haveL L),.zero,.zero,⟨#[]⟩,[]⟩:=by
 refine⟨?_,(h.dots y).2,Nat.zero_le _,Nat.zero_le _,Nat.zero_le _⟩
 simp[opB,bareB,kindB,Gid.none,h.ahead hy,(h.dots y).1,Gid.eqb_iff]
theorem KnG.insert {L:List (Grp×GrX)} {s:Gst} (h:KnG L s) {y:Gid} (hy:known1 L y) {a:Gid} (ha:a= .zero∨known1 L a) (c:Nat):OpOk s ⟨3,y,.zero,⟨#[]⟩,false,[],a,⟨s,0⟩,txB2 c,[]⟩:=by
 refine⟨?_,Nat.zero_le _,Nat.zero_le _,(txB2_ok c).2.1,Nat.zero_le _⟩
 simp[opB,bareB,kindB,Gid.none,h.ahead hy,h.parent ha,(txB2_ok c).1,Gid.eqb_iff]
theorem rises_sub {α:Type} {lt:α→α→Bool} {L:List α} (h:rises lt L) (k n:Nat):rises lt ((L.drop k).take n):=List.Pairwise.sublist ((List.take_sublist _ _).trans (List.drop_sublist _ _)) h
theorem KnG.erase {L:List (Grp×GrX)} {s:Gst} (h:KnG L s) {y:Gid} (hy:known1 L y) (x:Gid) (k n:Nat) (hk:k<(elemsL L x).length) (hn:1≤n) (hn3:n≤3):OpOk s ⟨4,y,.zero,⟨#[]⟩,false,[],.zero,.zero,⟨#[]⟩,((elemsL L x).drop k).take n⟩:=by
 obtain⟨h1,h2⟩:=h.elems x
 have h3:=rises_sub h2 k n
 have hm:∀e∈((elemsL L x).drop k).take n,known1 L e:=fun e he=>h1 e (List.mem_of_mem_drop (List.mem_of_mem_take he))
 have hl:1≤(((elemsL L x).drop k).take n).length∧(((elemsL L x).drop k).take n).length≤3:=by rw[List.length_take,List.length_drop];omega
 generalize ((elemsL L x).drop k).take n=E at *
 have he:elemsB s E 0=true:=by
  unfold elemsB
  rw[Bool.and_eq_true,Bool.and_eq_true,decide_eq_true_eq,decide_eq_true_eq]
  refine⟨⟨allIx_true fun i hi=> ?_,hl.1⟩,by omega⟩
  unfold elemB
  rw[h.ahead (hm _ (getD_memF hi _)),Bool.true_and]
  rcases Nat.eq_zero_or_pos i with h1|h1
  ·simp[h1]
  ·rw[rises_at h3 hi h1,Bool.or_true]
 refine⟨?_,Nat.zero_le _,hl.2,Nat.zero_le _,Nat.zero_le _⟩
 simp[opB,bareB,kindB,Gid.none,h.ahead hy,he,Gid.eqb_iff]
end
end Go.Proofs.YtkhmicndehlneaaGreatDoor
