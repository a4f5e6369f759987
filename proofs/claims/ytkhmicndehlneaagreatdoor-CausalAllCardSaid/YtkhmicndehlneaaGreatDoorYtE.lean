/- Part 31 of the walks and plain laws that this claim uses, joined. Conditions: as each theorem states. -/
import Derived.Test.YtkhmicndehlneaaGreatDoorYtB
import Derived.Test.YtkhmicndehlneaaGreatDoorYtD
namespace Go.Proofs.YtkhmicndehlneaaGreatDoor
set_option maxRecDepth 100000
set_option maxHeartbeats 16000000
section
open Go.RowKit Go.Lib Go.Sort
set_option linter.unusedVariables false
attribute [local go_sem ↓] Go.wp_at_zero Go.wp_at_succ
theorem mapA_getD (L:List (Grp×GrX)) (k:Nat):(L.map Prod.fst).getD k gz=(L.getD k gp0).1:=by
 rw[List.getD_eq_getElem?_getD,List.getElem?_map,List.getD_eq_getElem?_getD]
 cases L[k]? <;>rfl
theorem hearsA_succ (b:Bx) {G:List Grp} {k:Nat} (h:k<G.length):hearsB b (G.take (k+1))=(hearB (hearsB b (G.take k)) (G.getD k gz)).1:=by rw[takeD_succ h gz,hearsB_snoc]
theorem sumB_snoc (g:Grp):∀(l:List Grp) (b:Bx),sumB b (l++[g])=sumB b l+(hearB (hearsB b l) g).2.1
 | [],b=>by simp[sumB,hearsB]
 |x::l,b=>by rw[List.cons_append,sumB,sumB_snoc g l,hearsB_cons,sumB];omega
theorem sumA_succ (b:Bx) {G:List Grp} {k:Nat} (h:k<G.length):sumB b (G.take (k+1))=sumB b (G.take k)+(hearB (hearsB b (G.take k)) (G.getD k gz)).2.1:=by rw[takeD_succ h gz,sumB_snoc]
theorem oc_grC (x:Grp×GrX):∀u∈grC_ x,u.oneCell'=true:=oc_of (c:=(grC_ x).toArray) rfl
theorem drop_rev {L:List (Grp×GrX)} {q:Nat} (h:q<L.length):(L.drop q).reverse=(L.drop (q+1)).reverse++[L.getD q gp0]:=by
 rw[List.drop_eq_getElem_cons h,List.reverse_cons,List.getD_eq_getElem?_getD,List.getElem?_eq_getElem h];rfl
theorem causalall_any (D:List Doo) (dA:Option Addr) (dc:Nat) (P:List Int) (pA:Option Addr) (pc:Nat) (S0 S1:Nat→Prop) (W:World) (hD:∀x∈D,doOk x) (hdl:D.length≤9223372036854775807) (hR:RowF W S0 dA 6 doC do0 D) (hP:RowF W S1 pA 1 u8L 0 P) (hpb:∀q∈P,0≤q∧q≤255) (hpl:P.length≤9223372036854775807) (htab:Tabs W):
  Calls Tryz.prog 4 #[.slice dA D.length dc,.slice pA P.length pc] W fun e w'=>e= .returned (.bool true)∧Below W.heap.size W w':=by
 obtain⟨i0,hi,hz0,hz1,hz2⟩:=info_parts infogrC_
 have HTB:=hid htab
 have HPR:=hid hP
 have HPB:=hid hpb
 have HAW:=hid (awake21_any W htab)
 have HHI:=hid (fun W' (h:Below W.heap.size W W')=>history_any D dA dc S0 W' hD hdl (hR.below h))
 clear htab hP hpb hR hD
 go_enter Tryz.func4,Tryz.ntmps4
 go_upto_region 9 with(first
  |(go_at_call 18;refine(bxnew_any w2).mono ?_;rintro e w3 ⟨rfl,hw3⟩;have HW3:=hid hw3;clear hw3)
  |(go_at_call 17;refine(HHI.out w1 HB1.out).mono ?_;rintro e w2 ⟨L,kn,V,gA,gc,rfl,hok,hown,hgd,hB2⟩;have HOK:=hid hok;have HGR:=hid (RowGr.own hown);have HGD:=hid (fun p hp=>(hgd p hp).sub (T:=Here w2) fun b hb _=>hb);have HB2:=hid (HB1.out.trans (hB2.mono HB1.out.size));clear hok hown hgd hB2)
  |(go_at_call 16;refine HAW.out.mono ?_;rintro e w1 ⟨rfl,hB1⟩;have HB1:=hid hB1;clear hB1))
 obtain⟨G,hG⟩:∃G,G=L.map Prod.fst:=⟨_,rfl⟩
 have hgl:G.length=L.length:=by rw[hG,List.length_map]
 have hl16:=HOK.out.len
 have HHS:=hid (show HisG G by rw[hG];exact HOK.out.his)
 have HGE:=hid hG
 have HTX:=hid (show ∀p∈L,∀o∈p.1.ops,o.text.size≤1000000 from fun p hp o ho=>by have:=(HOK.out.sml p hp o ho).2.2.1;omega)
 have HB23:=hid (show Below w2.heap.size w2 w3 by rw[HW3.out];exact((Below.refl _ _).alloc (Nat.le_refl _) _).alloc (by simp) _)
 have hs3:w3.heap.size=w2.heap.size+2:=by rw[HW3.out];simp
 have HBX:=hid (BoxIn.made (Nat.le_refl _) (fun k (hk:Here w2 k)=>hk) HW3.out)
 have HMX:=hid (mixed_any L gA gc P pA pc S1 w3 (by omega) hpl (HGR.out.below HB23.out) (HPR.out.below (HB2.out.trans (HB23.out.mono HB2.out.size))) HPB.out)
 obtain⟨MXL,hMX⟩:∃X,X=mixed L P:=⟨_,rfl⟩
 have HMM:=hid (show(∀p∈MXL,p∈L)∧MXL.length≤30 by rw[hMX];exact⟨fun p hp=>mixed_mem hp,mixed_len L P⟩)
 rw[←hMX] at HMX
 have hml:=HMM.out.2
 have HLM:=hid (lengrC_ MXL)
 have HUM:=hid (show ∀u∈MXL.flatMap grC_,u.oneCell'=true from fun u hu=>by obtain⟨x,-,hx⟩:=List.mem_flatMap.1 hu;exact oc_grC x u hx)
 clear hG hMX HW3 HAW HHI HPR HPB
 go_upto_region 11 with(first
  |(at_builtin;refine wpList_append_flat rfl _ _ 25 rfl w3.heap.size 45 i0 (.agg #[.int .i64 0,.int .i64 0,.int .i64 0,.slice none 0 0,.int .i64 0,.int .i64 0,.slice none 0 0]) 7 88 Tryz.underlying25 hi hz0 hz1 hz2 rfl (by decide) (.slice none 0 0) 0 _ rfl (World.ownsRow_nil _ _ _ _) mA MXL.length mc (MXL.flatMap grC_) rfl HLM.out (row_at HO4.out) HUM.out (by unfold maxLen;omega) (by omega) hsz4 ?_;intro A5 c5 w5 hown hgrow;rw[Nat.zero_add] at hown ⊢;have HO5:=hid hown;have HB5:=hid (HB4.out.grown hgrow hsz4 (fun b hb=>by cases hb));clear hown hgrow)
  |(go_at_call 19;refine HMX.out.mono ?_;rintro e w4 ⟨mA,mc,rfl,hown4,hB4⟩;have HO4:=hid hown4;have HB4:=hid hB4;have hsz4:=hB4.size;clear hown4 hB4))
 have HO5b:=hid (show w5.ownsRow w3.heap.size 45 7 (.slice A5 MXL.length c5) MXL.length ((MXL++(L.drop L.length).reverse).flatMap grC_) by rw[List.drop_length,List.reverse_nil,List.append_nil];exact HO5.out)
 clear HMX HLM HUM HO4 HB4 HO5 hsz4
 go_loopw [8,9] (fun o i wr=>∃(k:Nat) (A':Option Addr) (c' m:Nat),k≤L.length∧i= .int .i64 ((k:Int)-1)∧o= .slice A' m c'∧m≤30+(L.length-k)∧Hid (m=(MXL++(L.drop k).reverse).length)∧Hid (wr.ownsRow w3.heap.size 45 7 (.slice A' m c') m ((MXL++(L.drop k).reverse).flatMap grC_))∧Hid (Below w3.heap.size w3 wr)) (fun o i _=>(RowKit.intOf i+1).toNat)
 case atStart=>exact⟨L.length,A5,c5,MXL.length,Nat.le_refl _,by go_num,rfl,by omega,hid (by simp),HO5b,HB5⟩
 case round=>
  clear HO5b HB5
  obtain⟨k,A',c',m,hk,rfl,rfl,hmk,HML,HO,HBr⟩:=hrel
  by_cases hk0:0<k
  ·obtain⟨k,rfl⟩:∃q,k=q+1:=⟨k-1,by omega⟩
   have hkl:k<L.length:=by omega
   rw[show(((k+1:Nat):Int)-1)=(k:Int) by omega]
   have i1:(0:Int)≤(k:Int):=by omega
   have i2:(k:Int)<(L.length:Int):=by omega
   obtain⟨rb,ro,e9,hrb,hrr⟩:=(HGR.out.below (HB23.out.trans (HBr.out.mono HB23.out.size))).range hkl
   cases e9
   have hdr:=drop_rev hkl
   generalize L.getD k gp0=p at *
   obtain⟨⟨⟨t,r⟩,n,dv,⟨ut,ur⟩,ops⟩,⟨dA,dc,oA,oc⟩⟩:=p
   have HRR:=hid (show wr.rangeAt rb (ro+k*7) [.int .i64 t,.int .i64 r,.int .i64 n,.slice dA dv.length dc,.int .i64 ut,.int .i64 ur,.slice oA ops.length oc] from hrr)
   have HDR:=hid (show MXL++(L.drop k).reverse=(MXL++(L.drop (k+1)).reverse)++[((⟨⟨t,r⟩,n,dv,⟨ut,ur⟩,ops⟩:Grp),(⟨dA,dc,oA,oc⟩:GrX))] by rw[hdr,List.append_assoc])
   have hszr:=HBr.out.size
   clear hrr hdr hrb
   go_wp2_with (first
    |(refine wpList_load_mid rfl _ _ rfl rb (ro+k*7) rfl [.int .i64 t,.int .i64 r,.int .i64 n,.slice dA dv.length dc,.int .i64 ut,.int .i64 ur,.slice oA ops.length oc] _ HRR.out Tryz.underlying45 rfl (by kernel_rfl) ?_)
    |(at_builtin;refine wpList_append_lies _ rfl _ _ 25 rfl w3.heap.size 45 i0 (.agg #[.int .i64 0,.int .i64 0,.int .i64 0,.slice none 0 0,.int .i64 0,.int .i64 0,.slice none 0 0]) 7 88 Tryz.underlying25 hi hz0 hz1 hz2 rfl (by decide) (.slice A' m c') m _ rfl (by exact HO.out.alloc _) ⟨wr.heap.size,0,none⟩ 1 1 [.int .i64 t,.int .i64 r,.int .i64 n,.slice dA dv.length dc,.int .i64 ut,.int .i64 ur,.slice oA ops.length oc] rfl rfl (fun j y h=>cellsN wr [.int .i64 t,.int .i64 r,.int .i64 n,.slice dA dv.length dc,.int .i64 ut,.int .i64 ur,.slice oA ops.length oc] 45 j y h) (oc_of (c:=#[.int .i64 t,.int .i64 r,.int .i64 n,.slice dA dv.length dc,.int .i64 ut,.int .i64 ur,.slice oA ops.length oc]) rfl) (by decide) (by unfold maxLen;omega) (by omega) (by simp;omega) (wr.heap.size+1) (by simp) ?_;intro gq cap w6 hown hgrow ha hlt5;have HO6:=hid hown;have HB6:=hid ((HBr.out.alloc hszr _).grown hgrow (by simp;omega) (fun b hb=>(HO.out.lt b hb).1));clear hown hgrow ha hlt5))
   go_roundw
   case rel=>exact⟨k,some ⟨gq,0,none⟩,cap,m+1,by omega,by go_num,rfl,by omega,hid (by rw[HDR.out,List.length_append,←HML.out];rfl),hid (by rw[HDR.out,List.flatMap_append];exact HO6.out),HB6⟩
   case measure=>(simp[RowKit.intOf];try omega)
  ·obtain rfl:k=0:=by omega
   have i2:¬(0:Int)≤((0:Nat):Int)-1:=by omega
   rw[List.drop_zero] at HML HO
   obtain⟨C,hC⟩:∃X,X=MXL++L.reverse:=⟨_,rfl⟩
   rw[←hC] at HML HO
   have HCM:=hid (show(∀p∈C,p∈L)∧∀p∈L,p∈C by rw[hC];exact⟨fun p hp=>(List.mem_append.1 hp).elim (HMM.out.1 p) (fun h=>List.mem_reverse.1 h),fun p hp=>List.mem_append.2 (.inr (List.mem_reverse.2 hp))⟩)
   obtain rfl:m=C.length:=HML.out
   obtain⟨GM,hGM⟩:∃X,X=C.map Prod.fst:=⟨_,rfl⟩
   have hgml:GM.length=C.length:=by rw[hGM,List.length_map]
   have HGM:=hid hGM
   have HGS:=hid (show(∀g∈GM,g∈G)∧∀g∈G,g∈GM by
    rw[hGM,HGE.out]
    exact⟨fun g hg=>by obtain⟨p,hp,rfl⟩:=List.mem_map.1 hg;exact List.mem_map.2 ⟨p,HCM.out.1 p hp,rfl⟩,fun g hg=>by obtain⟨p,hp,rfl⟩:=List.mem_map.1 hg;exact List.mem_map.2 ⟨p,HCM.out.2 p hp,rfl⟩⟩)
   have HCR:=hid (ownN_rowF (z:=gp0) (f:=grC_) (fun _=>rfl) rfl HO.out)
   have HB26:=hid (HB23.out.trans (HBr.out.mono HB23.out.size))
   have HNO:=hid (show ∀k,Here w2 k→¬Own (w2.heap.size+1) (boxN w2) k from fun k hk h=>by have hk:k<w2.heap.size:=hk;rcases own_new_iff h with h|h<;>omega)
   have HOB:=hid (show ∀k,Own (w2.heap.size+1) (boxN w2) k→w2.heap.size≤k∧k<w3.heap.size from fun k h=>by rcases own_new_iff h with h|h<;>omega)
   have HP:=hid (show Heard w2.heap.size (w2.heap.size+1) (boxN w2) (Here w2) wr 0 (fun g=>∀o∈g.ops,o.text.size≤1000000) (hearsB Bx.new (GM.take 0)) wr from⟨BxOk.new,Nat.zero_le _,Nat.le_refl _,fun g hg=>(by cases hg),boxN w2,Here w2,HBX.out.below HBr.out,BTo.refl⟩)
   have HGW:=hid (fun p (hp:p∈C)=>(HGD.out p (HCM.out.1 p hp)).agr (Agr.below HB26.out))
   generalize wr=w6 at *
   clear hC hGM HMM HML HO HBX HBr i2
   go_upto_region 16 with fail
   go_loopg [10,11] C.length (fun g0 n i wx=>∃(k N:Nat),k+g0=C.length∧i= .int .i64 k∧n= .int .i64 N∧N≤16∧Hid (N=sumB Bx.new (GM.take k))∧Hid (Heard w2.heap.size (w2.heap.size+1) (boxN w2) (Here w2) w6 k (fun g=>∀o∈g.ops,o.text.size≤1000000) (hearsB Bx.new (GM.take k)) wx))
   case atStart=>exact⟨0,0,Nat.zero_add _,rfl,rfl,Nat.zero_le _,hid rfl,HP⟩
   case round=>
    clear HP
    obtain⟨k,N,hk,rfl,rfl,hN16,HN,HP⟩:=hrel
    have HLO:=hid (HB26.out.trans ((HP.out.gr.below HB26.out.size fun k h=>(HOB.out k h).1)))
    have HCW:=hid (HCR.out.agr (HP.out.gr.agr fun k hk h1 h2=>by have:=(HOB.out k h2).2;omega))
    by_cases hkc:k<C.length
    ·have i1:(0:Int)≤(k:Int):=by omega
     have i3:(k:Int)<(C.length:Int):=by omega
     obtain⟨rb,ro,e9,-,hrb,hrr⟩:=HCW.out.range (fun _=>rfl) hkc
     cases e9
     obtain⟨hs1,-,ts,hs2,hs3⟩:=BxH.hears HHS.out (by omega) (GM.take k) (BxH.new G) (fun g hg=>HGS.out.1 g (List.mem_of_mem_take hg))
     have hgk:GM.getD k gz=(C.getD k gp0).1:=by rw[HGM.out,mapA_getD]
     have hmem:=getD_memF hkc gp0
     have hhr:=hs1.hear HHS.out (by omega) (show(C.getD k gp0).1∈G by rw[HGE.out];exact List.mem_map.2 ⟨_,HCM.out.1 _ hmem,rfl⟩)
     have HHR:=hid (HP.out.hear (by omega) HNO.out (C.getD k gp0) (HGW.out _ hmem) (HTX.out _ (HCM.out.1 _ hmem)) (fun o ho=>by have:=HTX.out _ (HCM.out.1 _ hmem) o ho;omega) (HTB.out.below (HB2.out.trans (HLO.out.mono HB2.out.size))))
     have HSU:=hid (show hearsB Bx.new (GM.take (k+1))=(hearB (hearsB Bx.new (GM.take k)) (C.getD k gp0).1).1 by rw[hearsA_succ _ (by omega),hgk])
     have HNU:=hid (show sumB Bx.new (GM.take (k+1))=N+(hearB (hearsB Bx.new (GM.take k)) (C.getD k gp0).1).2.1 by rw[sumA_succ _ (by omega),hgk,HN.out])
     obtain⟨t2,ht2,ht3⟩:=hhr.pre
     have hnl:=hhr.inv.toBxG.len
     have hz:=hhr.err
     rw[ht2,hs2] at hnl
     simp only[List.length_append] at hnl
     have hbn:Bx.new.done.length=0:=rfl
     have hsum:N+(hearB (hearsB Bx.new (GM.take k)) (C.getD k gp0).1).2.1≤16:=by rw[HN.out];omega
     clear hs1 hs2 hs3 hgk hmem hhr ht2 ht3 hnl hbn
     generalize C.getD k gp0=p at *
     obtain⟨⟨⟨t,r⟩,n,dv,⟨ut,ur⟩,ops⟩,⟨dA,dc,oA,oc⟩⟩:=p
     have HRR:=hid (show wr.rangeAt rb (ro+k*7) [.int .i64 t,.int .i64 r,.int .i64 n,.slice dA dv.length dc,.int .i64 ut,.int .i64 ur,.slice oA ops.length oc] from hrr)
     obtain⟨nn,hnn⟩:∃x,x=(hearB (hearsB Bx.new (GM.take k)) ⟨⟨t,r⟩,n,dv,⟨ut,ur⟩,ops⟩).2.1:=⟨_,rfl⟩
     obtain⟨zz,hzz⟩:∃x,x=(hearB (hearsB Bx.new (GM.take k)) ⟨⟨t,r⟩,n,dv,⟨ut,ur⟩,ops⟩).2.2:=⟨_,rfl⟩
     have HHR2:Hid (Calls Tryz.prog 20 #[.pointer (some ⟨w2.heap.size+1,0,none⟩),.agg #[.int .i64 t,.int .i64 r,.int .i64 n,.slice dA dv.length dc,.int .i64 ut,.int .i64 ur,.slice oA ops.length oc]] wr fun e w'=>e= .returned (.tuple #[.int .i64 (nn:Nat),.int .i64 zz])∧Heard w2.heap.size (w2.heap.size+1) (boxN w2) (Here w2) w6 (k+1) (fun g=>∀o∈g.ops,o.text.size≤1000000) (hearB (hearsB Bx.new (GM.take k)) ⟨⟨t,r⟩,n,dv,⟨ut,ur⟩,ops⟩).1 w'):=hid (by rw[hnn,hzz];exact HHR.out)
     have hz2:zz=0∨zz=210:=by
      rw[hzz]
      exact hz.imp id (fun h=>h.1)
     have hsum:N+nn≤16:=by rw[hnn];exact hsum
     have HNV:=hid (show sumB Bx.new (GM.take (k+1))=N+nn by rw[hnn];exact HNU.out)
     clear hrr hz hnn hzz HHR HNU hrb
     rcases hz2 with rfl|rfl
     ·go_wp2_with (first
       |(refine wpList_load_mid rfl _ _ rfl rb (ro+k*7) rfl [.int .i64 t,.int .i64 r,.int .i64 n,.slice dA dv.length dc,.int .i64 ut,.int .i64 ur,.slice oA ops.length oc] _ HRR.out Tryz.underlying45 rfl (by kernel_rfl) ?_)
       |(go_at_call 20;refine HHR2.out.mono ?_;rintro e w5 ⟨rfl,hP5⟩;have HP5:=hid hP5;clear hP5))
      go_roundg (C.length-(k+1))
      case measure=>omega
      case rel=>exact⟨k+1,N+nn,by omega,by go_num,by go_num,by omega,hid HNV.out.symm,hid (by rw[HSU.out];exact HP5.out)⟩
     ·go_wp2_with (first
       |(refine wpList_load_mid rfl _ _ rfl rb (ro+k*7) rfl [.int .i64 t,.int .i64 r,.int .i64 n,.slice dA dv.length dc,.int .i64 ut,.int .i64 ur,.slice oA ops.length oc] _ HRR.out Tryz.underlying45 rfl (by kernel_rfl) ?_)
       |(go_at_call 20;refine HHR2.out.mono ?_;rintro e w5 ⟨rfl,hP5⟩;have HP5:=hid hP5;clear hP5))
      go_roundg (C.length-(k+1))
      case measure=>omega
      case rel=>exact⟨k+1,N+nn,by omega,by go_num,by go_num,by omega,hid HNV.out.symm,hid (by rw[HSU.out];exact HP5.out)⟩
    ·obtain rfl:k=C.length:=by omega
     have i3:¬(C.length:Int)<(C.length:Int):=by omega
     rw[show GM.take C.length=GM by rw[←hgml,List.take_length]] at HP HN
     obtain⟨hs1,hs0,ts,hs2,hs3⟩:=BxH.hears HHS.out (by omega) GM (BxH.new G) HGS.out.1
     have hall:=done_all HHS.out hs1 fun g hg=>hs0 g (.inl (HGS.out.2 g hg))
     have hw0:=wait_none hs1.toBxG hall
     have hpm:=done_perm HHS.out hs1.toBxG hall
     have hok9:=hs1.toBxG.ok
     obtain⟨b,hb⟩:∃X,X=hearsB Bx.new GM:=⟨_,rfl⟩
     rw[←hb] at HP hs2 hw0 hpm hok9
     have hbl:b.done.length=L.length:=by rw[hpm.length_eq,hgl]
     obtain rfl:N=L.length:=by
      rw[HN.out,←hs3,←hbl,hs2];simp[Bx.new]
     obtain⟨X,S,hX,hTo⟩:=HP.out.box
     have hxl:X.L.length=L.length:=by rw[←hbl,←hX.dl,List.length_map]
     have hmem:∀p∈X.L,∃q∈L,q.1=p.1:=fun p hp=>by
      have h1:p.1∈b.done:=by rw[←hX.dl];exact List.mem_map.2 ⟨p,hp,rfl⟩
      have h2:=hpm.mem_iff.1 h1
      rw[HGE.out] at h2
      exact List.mem_map.1 h2
     have hperm:Perm2 X.L L:=by
      refine⟨by rw[hX.dl,←HGE.out];exact hpm,?_,fun p hp=> ?_,fun p hp=> ?_⟩
      ·rw[map_s,hX.dl]
       have h1:=hok9.apart
       rw[List.map_append,List.nodup_append] at h1
       exact h1.1
      ·obtain⟨q,hq,e⟩:=hmem p hp;rw[←e];exact HOK.out.one q hq
      ·obtain⟨q,hq,e⟩:=hmem p hp;rw[←e];exact HOK.out.chk q hq
     have hsml:∀p∈X.L,∀o∈p.1.ops,o.dots.length≤16∧o.elems.length≤3∧o.text.size≤2∧o.name.size≤1:=fun p hp=>by
      obtain⟨q,hq,e⟩:=hmem p hp;rw[←e];exact HOK.out.sml q hq
     have hpL:Perm2 L L:=⟨List.Perm.refl _,HOK.out.nd,HOK.out.one,HOK.out.chk⟩
     have hpX:Perm2 X.L X.L:=⟨List.Perm.refl _,hperm.nd,hperm.one,hperm.chk⟩
     have hent:=hperm.ent
     obtain⟨e1,e2⟩:=ent_ok hpL (by omega) fun p hp o ho=>by have:=(HOK.out.sml p hp o ho).2.2.1;omega
     obtain⟨e3,e4⟩:=ent_ok hpX (by omega) fun p hp o ho=>by have:=(hsml p hp o ho).2.2.1;omega
     have hel:(entG L).length≤10000:=by rw[entG_len];exact e2
     have hah:∃u,aheadV [] (X.L.map Prod.fst)=some u:=⟨b.v,by rw[hX.dl];exact hok9.ahead⟩
     obtain⟨u,hu⟩:=hah
     have HDN:=hid (fun W' (h:Below wr.heap.size wr W')=>show Calls Tryz.prog 21 #[.pointer (some ⟨w2.heap.size+1,0,none⟩)] W' fun e w'=>∃A c,e= .returned (.slice A L.length c)∧RowGr w' A X.L∧(∀p∈X.L,GrG w' (fun _=>True) p)∧Below W'.heap.size W' w' from by
      refine(bxdone_any (hX.below h) (by omega)).mono ?_
      rintro e w' ⟨A,c,rfl,h1,h2⟩
      exact⟨A,c,by rw[hbl],RowGr.own h1,fun p hp=>(((hX.good p (List.mem_append.2 (.inl hp))).agr (Agr.below h)).agr (Agr.below h2)).sub fun _ _ _=>trivial,h2⟩)
     have HWT:=hid (fun W' (h:Below wr.heap.size wr W')=>show Calls Tryz.prog 22 #[.pointer (some ⟨w2.heap.size+1,0,none⟩)] W' fun e w'=>∃A c,e= .returned (.slice A 0 c)∧Below W'.heap.size W' w' from by
      refine(bxwait_any (hX.below h) (by rw[hw0];decide)).mono ?_
      rintro e w' ⟨A,c,rfl,h1,h2⟩
      exact⟨A,c,by rw[hw0];rfl,h2⟩)
     have HAH:=hid (fun W' A c (h1:RowGr W' A X.L) (h2:∀p∈X.L,GrG W' (fun _=>True) p)=>show Calls Tryz.prog 23 #[.slice A L.length c] W' fun e w'=>e= .returned (.bool true)∧Below W'.heap.size W' w' from by
      rw[←hxl];exact lawahead_any X.L A c _ W' (by omega) h1 h2 (fun p hp o ho=>by have:=(hsml p hp o ho).2.2.1;omega) u hu)
     have HEX:=hid (fun W' A c (h1:RowGr W' A X.L) (h2:∀p∈X.L,GrG W' (fun _=>True) p)=>show Calls Tryz.prog 25 #[.slice A L.length c] W' fun e w'=>∃A' c',e= .returned (.slice A' (entG L).length c')∧RowF w' (fun b=>W'.heap.size≤b) A' 3 entL ent0 (entG L)∧Below W'.heap.size W' w' from by
      rw[←hxl]
      refine(entries_any X.L A c _ W' (by omega) (fun p hp=>⟨by have:=hperm.one p hp;omega,fun o ho=>by have:=(hsml p hp o ho).2.1;omega⟩) (fun p hp o ho=>by have:=hsml p hp o ho;omega) e3 e4 h1 h2 hperm.chk hperm.nd).mono ?_
      rintro e w' ⟨A',c',rfl,h3,h4⟩
      rw[hent] at h3
      exact⟨A',c',by rw[hent],ownN_rowF (fun _=>rfl) rfl h3,h4⟩)
     have HEL:=hid (fun W' (h:Below wr.heap.size wr W')=>show Calls Tryz.prog 25 #[.slice gA L.length gc] W' fun e w'=>∃A' c',e= .returned (.slice A' (entG L).length c')∧RowF w' (fun b=>W'.heap.size≤b) A' 3 entL ent0 (entG L)∧Below W'.heap.size W' w' from by
      have hlw:=HLO.out.trans (h.mono HLO.out.size)
      refine(entries_any L gA gc _ W' (by omega) (fun p hp=>⟨by have:=HOK.out.one p hp;omega,fun o ho=>by have:=(HOK.out.sml p hp o ho).2.1;omega⟩) (fun p hp o ho=>by have:=HOK.out.sml p hp o ho;omega) e1 e2 (HGR.out.below hlw) (fun p hp=>(HGD.out p hp).agr (Agr.below hlw)) HOK.out.chk HOK.out.nd).mono ?_
      rintro e w' ⟨A',c',rfl,h3,h4⟩
      exact⟨A',c',rfl,ownN_rowF (fun _=>rfl) rfl h3,h4⟩)
     have HSM:=hid (fun W' A A' c c' (S3 S4:Nat→Prop) (h1:RowF W' S3 A 3 entL ent0 (entG L)) (h2:RowF W' S4 A' 3 entL ent0 (entG L))=>same16_any (entG L) A A' c c' S3 S4 W' (by omega) h1 h2)
     have HBW:=hid (HB2.out.trans (HLO.out.mono HB2.out.size))
     generalize entG L=EL at *
     clear hs1 hs0 hs2 hs3 hall hw0 hpm hok9 hb hbl hX hTo hmem hperm hsml hpL hpX hent e1 e2 e3 e4 hel hu HP HN hxl HCW
     go_wp2_with (first
      |(go_at_call 24;refine(HSM.out x7 _ _ _ _ _ _ HE6.out HE7.out).mono ?_;rintro e x8 ⟨rfl,hB⟩;have HX8:=hid (HX7.out.trans (hB.mono HX7.out.size));clear hB)
      |(go_at_call 25;refine(HEL.out x6 HX6.out).mono ?_;rintro e x7 ⟨eA7,ec7,rfl,hr,hB⟩;have HX7:=hid (HX6.out.trans (hB.mono HX6.out.size));have HE7:=hid hr;have HE6:=hid (HE6.out.below hB);clear hB hr)
      |(go_at_call 25;refine(HEX.out x5 dA5 dc5 HD5.out HG5.out).mono ?_;rintro e x6 ⟨eA6,ec6,rfl,hr,hB⟩;have HX6:=hid (HX5.out.trans (hB.mono HX5.out.size));have HE6:=hid hr;clear hB hr)
      |(go_at_call 21;refine(HDN.out x4 HX4.out).mono ?_;rintro e x5 ⟨dA5,dc5,rfl,hd5,hg5,hB⟩;have HX5:=hid (HX4.out.trans (hB.mono HX4.out.size));have HD5:=hid hd5;have HG5:=hid hg5;clear hB hd5 hg5)
      |(go_at_call 23;refine(HAH.out x3 dA3 dc3 HD3.out HG3.out).mono ?_;rintro e x4 ⟨rfl,hB⟩;have HX4:=hid (HX3.out.trans (hB.mono HX3.out.size));clear hB)
      |(go_at_call 21;refine(HDN.out x2 HX2.out).mono ?_;rintro e x3 ⟨dA3,dc3,rfl,hd3,hg3,hB⟩;have HX3:=hid (HX2.out.trans (hB.mono HX2.out.size));have HD3:=hid hd3;have HG3:=hid hg3;clear hB hd3 hg3)
      |(go_at_call 22;refine(HWT.out x1 HX1.out).mono ?_;rintro e x2 ⟨wA2,wc2,rfl,hB⟩;have HX2:=hid (HX1.out.trans (hB.mono HX1.out.size));clear hB)
      |(go_at_call 21;refine(HDN.out wr (Below.refl _ _)).mono ?_;rintro e x1 ⟨dA1,dc1,rfl,-,-,hB⟩;have HX1:=hid hB;clear hB))
     go_ret
     exact⟨rfl,HBW.out.trans (HX8.out.mono HBW.out.size)⟩
end
section
open Go.ChangeShapes Go.WideShapes Go.RowKit Go.Lib Go.Deep
set_option linter.unusedVariables false
section
variable {H : Type} {enc : TypeId × Value → H} {w : World} {spare : Nat → Bool} {held : Bool} {fuel : Nat} {cs : List Value} {x : DataW H × List MemPlace}
theorem cells_u8:Tryz.prog.cellsOf 5=1:=by kernel_rfl
theorem cells_do:Tryz.prog.cellsOf 86=6:=by kernel_rfl
theorem wf_u8 {n:Int} (h:(Lit.int .u8 n).wf=true):0≤n∧n≤255:=by
 simpa[Lit.wf,IntKind.min,IntKind.max,IntKind.bits,IntKind.signed] using h
instance:Inhabited Doo:=⟨do0⟩
theorem opn_do (h:DataW.trod enc Tryz.prog w 0 spare held fuel 86 cs=some x):∃d:Doo,cs=doC d∧doOk d:=by
 obtain⟨ys,n,_,_,hlen,hyl,hf⟩:=DataW.trod_struct Tryz.underlying86 h
 rw[cells_do] at hlen
 match cs,hlen,ys,hyl with
 | [c0,c1,c2,c3,c4,c5],_,[y0,y1,y2,y3,y4,y5],_=>
  obtain⟨a0,e0,_,w0⟩:=DataW.trod_int Tryz.underlying5 (fld (hf 0 _ rfl) cells_u8 rfl rfl)
  obtain⟨a1,e1,_,w1⟩:=DataW.trod_int Tryz.underlying5 (fld (hf 1 _ rfl) cells_u8 rfl rfl)
  obtain⟨a2,e2,_,w2⟩:=DataW.trod_int Tryz.underlying5 (fld (hf 2 _ rfl) cells_u8 rfl rfl)
  obtain⟨a3,e3,_,w3⟩:=DataW.trod_int Tryz.underlying5 (fld (hf 3 _ rfl) cells_u8 rfl rfl)
  obtain⟨a4,e4,_,w4⟩:=DataW.trod_int Tryz.underlying5 (fld (hf 4 _ rfl) cells_u8 rfl rfl)
  obtain⟨a5,e5,_⟩:=DataW.trod_bool Tryz.underlying4 (fld (hf 5 _ rfl) cells_bool rfl rfl)
  have k0:=wf_u8 w0
  have k1:=wf_u8 w1
  have k2:=wf_u8 w2
  have k3:=wf_u8 w3
  have k4:=wf_u8 w4
  cases e0;cases e1;cases e2;cases e3;cases e4;cases e5
  refine⟨⟨a0.toNat,a1.toNat,a2.toNat,a3.toNat,a4.toNat,a5⟩,?_,?_⟩
  ·show _=[Value.int .u8 (a0.toNat:Int),.int .u8 (a1.toNat:Int),.int .u8 (a2.toNat:Int),.int .u8 (a3.toNat:Int),.int .u8 (a4.toNat:Int),.bool a5]
   rw[Int.toNat_of_nonneg k0.1,Int.toNat_of_nonneg k1.1,Int.toNat_of_nonneg k2.1,Int.toNat_of_nonneg k3.1,Int.toNat_of_nonneg k4.1]
  ·refine⟨?_,?_,?_,?_,?_⟩<;>(simp only[];omega)
theorem opn_dos (h:DataW.trod enc Tryz.prog w 0 spare held fuel 22 cs=some x):∃(A:Option Addr) (D:List Doo) (c:Nat),cs=[.slice A D.length c]∧D.length≤c∧c≤maxLen∧RowF w (Here w) A 6 doC do0 D∧∀d∈D,doOk d:=by
 obtain⟨A,len,c,f,hcs,h1,h2,h3,h4⟩:=opn_rows (α:=Doo) (s:=6) (by decide) Tryz.underlying22 cells_do (fun p j=>(doC p).getD j undef) (fun p _=>doOk p) (fun n cs' d p h=>by
  obtain⟨v,rfl,h1⟩:=opn_do h
  refine⟨v,fun j hj=> ?_,h1⟩
  have:j<(doC v).length:=hj
  rw[List.getElem?_eq_getElem this,List.getD_eq_getElem?_getD,List.getElem?_eq_getElem this]
  rfl) h
 refine⟨A,(List.range len).map f,c,by rw[range_len];exact hcs,by rw[range_len];exact h1,h2,?_,fun y hy=> ?_⟩
 ·unfold RowF
  rw[range_len]
  exact RowG.congr h3 fun k j hk hj=>by rw[range_getD f do0 hk]
 ·obtain⟨k,hk,rfl⟩:=List.mem_map.1 hy
  obtain⟨d,hd,_⟩:=h4 k (List.mem_range.1 hk)
  exact hd
theorem opn_u8s (h:DataW.trod enc Tryz.prog w 0 spare held fuel 23 cs=some x):∃(A:Option Addr) (P:List Int) (c:Nat),cs=[.slice A P.length c]∧P.length≤c∧c≤maxLen∧RowF w (Here w) A 1 u8L 0 P∧∀q∈P,0≤q∧q≤255:=by
 obtain⟨A,len,c,f,hcs,h1,h2,h3,h4⟩:=opn_rows (α:=Int) (s:=1) (by decide) Tryz.underlying23 cells_u8 (fun v j=>(u8L v).getD j undef) (fun v _=>0≤v∧v≤255) (fun n cs' d p h=>by
  obtain⟨v,rfl,_,hw⟩:=DataW.trod_int Tryz.underlying5 h
  exact⟨v,fun j hj=>by obtain rfl:j=0:=(by omega);rfl,wf_u8 hw⟩) h
 refine⟨A,(List.range len).map f,c,by rw[range_len];exact hcs,by rw[range_len];exact h1,h2,?_,fun y hy=> ?_⟩
 ·unfold RowF
  rw[range_len]
  exact RowG.congr h3 fun k j hk hj=>by rw[range_getD f 0 hk]
 ·obtain⟨k,hk,rfl⟩:=List.mem_map.1 hy
  obtain⟨d,hd,_⟩:=h4 k (List.mem_range.1 hk)
  exact hd
end
end
section
open Go.RowKit Go.Lib Go.Sort
theorem causalall_card (D:List Doo) (dA:Option Addr) (dc:Nat) (P:List Int) (pA:Option Addr) (pc:Nat) (W:World) (hc0:D.length≤dc) (hm0:dc≤maxLen) (hR:RowF W (Here W) dA 6 doC do0 D) (hD:∀x∈D,doOk x) (hc1:P.length≤pc) (hm1:pc≤maxLen) (hP:RowF W (Here W) pA 1 u8L 0 P) (hb:∀q∈P,0≤q∧q≤255) (htab:Tabs W):
  Calls Tryz.prog 4 #[.slice dA D.length dc,.slice pA P.length pc] W fun e w'=>e= .returned (.bool true)∧Below W.heap.size W w':=
 causalall_any D dA dc P pA pc (Here W) (Here W) W hD (by unfold maxLen at hm0;omega) hR hP hb (by unfold maxLen at hm1;omega) htab
end
end Go.Proofs.YtkhmicndehlneaaGreatDoor
