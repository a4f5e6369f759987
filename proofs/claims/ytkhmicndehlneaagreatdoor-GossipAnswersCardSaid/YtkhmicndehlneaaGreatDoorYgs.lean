/- Part 19 of the walks and plain laws that this claim uses, joined. Conditions: as each theorem states. -/
import Derived.Test.YtkhmicndehlneaaGreatDoorYgr
namespace Go.Proofs.YtkhmicndehlneaaGreatDoor
set_option maxRecDepth 100000
set_option maxHeartbeats 16000000
set_option linter.unusedVariables false
section
open Go.RowKit Go.Lib Go.Sort
attribute [local go_sem ↓] Go.wp_at_zero Go.wp_at_succ
def maxV (v u:List Int):List Int:=(List.range (max v.length u.length)).map λk=>max (v.getD k 0) (u.getD k 0)
def mergeV (v u:List Int):List Int:=plainV (maxV v u)
theorem maxV_len (v u:List Int):(maxV v u).length=max v.length u.length:=by unfold maxV;simp
theorem getD_out {v:List Int} {k:Nat} (h:v.length<=k):v.getD k 0=0:=by rw[List.getD_eq_getElem?_getD,List.getElem?_eq_none h];rfl
theorem maxV_getD (v u:List Int) (k:Nat):(maxV v u).getD k 0=max (v.getD k 0) (u.getD k 0):=by
 unfold maxV;rw[List.getD_eq_getElem?_getD,List.getElem?_map];by_cases h:k<max v.length u.length
 ·rw[List.getElem?_range h];rfl
 ·rw[List.getElem?_eq_none (by simpa using h),Option.map_none,Option.getD_none,getD_out (by omega),getD_out (by omega)];rfl
theorem mergeV_getD (v u:List Int) (k:Nat):(mergeV v u).getD k 0=max (v.getD k 0) (u.getD k 0):=by unfold mergeV;rw[pv_getD,maxV_getD]
theorem mergeV_len (v u:List Int):(mergeV v u).length<=max v.length u.length:=by
 unfold mergeV;have h1:=pv_len (maxV v u);rw[maxV_len] at h1;exact h1
theorem own_capmax {w:World} {B E s n c:Nat} {A:Option Addr} {xs:List Value} (h:w.ownsRow B E s (.slice A n c) n xs):c<=maxLen:=by
 rcases h.2 with⟨e1,e2⟩|⟨g,cap,cur,e1,e2,e3,e4,e5,e6⟩
 ·cases e1;exact Nat.zero_le _
 ·cases e1;exact e5
theorem refmerge_any (A A2:Option Addr) (c c2:Nat) (v u:List Int) (w:World) (hv:v.length<=1000) (hu:u.length<=1000) (hA:VecR w A v) (hA2:VecR w A2 u):
  Calls Tryz.prog 87 #[.slice A v.length c,.slice A2 u.length c2] w λe w'=>∃A' c',e= .returned (.slice A' (mergeV v u).length c')∧VecS w' (λk=>w.heap.size<=k) A' (mergeV v u)∧(mergeV v u).length<=c'∧c'<=maxLen∧Below w.heap.size w w':=by
 obtain⟨i0,hi,hz0,hz1,hz2⟩:=info_parts infointC_;obtain⟨xs,hxs⟩:∃xs,xs=maxV v u:=⟨_,rfl⟩;have HMG:=hid (show mergeV v u=plainV xs by rw[hxs];rfl);have HXG:=hid (show ∀k:Nat,xs.getD k 0=max (v.getD k 0) (u.getD k 0) from λk=>by rw[hxs];exact maxV_getD v u k);have hxl:xs.length=max v.length u.length:=by rw[hxs,maxV_len]
 obtain⟨m,hm⟩:∃m,m=xs.length:=⟨_,rfl⟩;have hm1:m<=1000:=by omega
 have e0:max (v.length:Int) (u.length:Int)=(m:Int):=by omega
 have HXL:=hid hm;have HA:=hid hA;have HA2:=hid hA2;rw[HMG.out];clear hxs hxl hm hA hA2;go_enter Tryz.func87,Tryz.ntmps87;go_upto_region 3 with fail;go_loopw [5,6] (λo i wr=>∃(k:Nat) (A':Option Addr) (c':Nat),k<=m∧i= .int .i64 ((k:Int)+1)∧o= .slice A' k c'∧Hid (wr.ownsRow w.heap.size 3 1 (.slice A' k c') k ((xs.take k).flatMap intC_))∧Hid (Below w.heap.size w wr)) (λo i _=>m+1-(RowKit.intOf i).toNat)
 case atStart=>exact⟨0,none,0,Nat.zero_le _,by go_num,rfl,hid (World.ownsRow_nil _ _ _ _),hid (Below.refl _ _)⟩
 case round=>
  obtain⟨k,A',c',hk,rfl,rfl,HO,HBr⟩:=hrel;have hsz:=HBr.out.size;by_cases hlt:k<m
  ·have i1:(k:Int)+1<=(m:Int):=by omega
   have HTK:=hid (take_int xs k (by rw[<-HXL.out];exact hlt));have HCA:=hid (λW (hB:Below w.heap.size w W)=>by have h9:=refat_any A c v ((k:Int)+1) W (by omega) (HA.out.below hB);rw[show atV v ((k:Int)+1)=v.getD k 0 from atV_in] at h9;exact h9);have HCB:=hid (λW (hB:Below w.heap.size w W)=>by have h9:=refat_any A2 c2 u ((k:Int)+1) W (by omega) (HA2.out.below hB);rw[show atV u ((k:Int)+1)=u.getD k 0 from atV_in] at h9;exact h9);have hx:=HXG.out k;generalize v.getD k 0=a at *;generalize u.getD k 0=b at *;obtain⟨z,hz⟩:∃z,z=max a b:=⟨_,rfl⟩;have e1:max a b=z:=hz.symm;have HX:=hid (show xs.getD k 0=z by rw[hx,hz]);clear hz hx
   go_wp2_with (first
    |(go_at_call 55;refine(HCA.out wr HBr.out).mono ?_;rintro e w' ⟨rfl,rfl⟩)
    |(go_at_call 55;refine(HCB.out _ HBr.out).mono ?_;rintro e w' ⟨rfl,rfl⟩)
    |(at_builtin;refine wpList_append_own _ rfl _ _ 27 rfl w.heap.size 3 i0 (.int .i64 0) 1 8 Tryz.underlying27 hi hz0 hz1 hz2 rfl (by decide) (.slice A' k c') k _ rfl (by exact HO.out.alloc _) ⟨_,0,none⟩ 1 1 (intC_ z) rfl rfl (by exact cellsN _ _ _) (by exact ocintC_ _) (by unfold maxLen;omega) (by omega) (by simp;omega) ?_;intro v' w3 hown' hgrow _;have HO3:=hid hown';have HB3:=hid ((HBr.out.alloc hsz _).grown hgrow (by simp;omega) (λb hb=>(HO.out.lt b hb).1));clear hown' hgrow))
   obtain⟨A9,c9,rfl⟩:=row_slice HO3.out;go_roundw
   case rel=>exact⟨k+1,A9,c9,by omega,by go_num,rfl,hid (by rw[HTK.out,HX.out];exact HO3.out),HB3⟩
   case measure=>(simp[RowKit.intOf];omega)
  ·obtain rfl:k=m:=by omega
   have i1:¬(k:Int)+1<=(k:Int):=by omega
   have hO9:wr.ownsRow w.heap.size 3 1 (.slice A' k c') k (xs.flatMap intC_):=by have h9:=HO.out;rw[HXL.out,List.take_length,<-HXL.out] at h9;exact h9
   have hO8:=hO9;rw[HXL.out] at hO8;have hvs:=vec_own hO8;have hcap:=row_cap hO9;have HVS:=hid (vecS_plain hvs);have hpl:=pv_len xs;have hxl9:=HXL.out;have HCM:=hid (own_capmax hO9)
   have HPL:=hid (show Calls Tryz.prog 105 #[.slice A' k c'] wr λe w'=>e= .returned (.slice A' (plainV xs).length c')∧w'=wr from by
    have h9:=refplain_any A' c' xs wr (by omega) (by omega) (VecS.vec hvs)
    rw[<-HXL.out] at h9;exact h9)
   have HLE:=hid (show(plainV xs).length<=c' by omega);clear hO9 hO8 hvs hcap hpl hxl9;go_wp2_with (go_at_call 105;refine HPL.out.mono ?_;rintro e w9 ⟨rfl,rfl⟩);go_ret;exact⟨A',c',rfl,HVS.out,HLE.out,HCM.out,HBr.out⟩
def pickD (l:List Gid) (n:Nat):Gid:=l.getD (n % (l.length+1)) .zero
theorem pick_any (L:List Gid) (A:Option Addr) (c:Nat) (q:Nat) (S:Nat->Prop) (w:World) (hl:L.length<=100000) (hq:q<=255) (hR:RowF w S A 3 idL .zero L):
  Calls Tryz.prog 143 #[.slice A L.length c,.int .u8 (q:Int)] w λe w'=>e= .returned (.agg (idL (pickD L q)).toArray)∧Below w.heap.size w w':=by
 obtain⟨u,hu⟩:∃u,u=q % (L.length+1):=⟨_,rfl⟩;have hul:u<=L.length:=by have:=Nat.mod_lt q (show 0<L.length+1 by omega);omega
 have j1:IntKind.i64.wrap (q:Int)=(q:Int):=by rw[IntKind.wrap_i64];omega
 have j2:((q:Int)).tmod ((L.length:Int)+1)=(u:Int):=by rw[Int.tmod_eq_emod_of_nonneg (by omega),hu];rfl
 have j3:IntKind.i64.wrap (u:Int)=(u:Int):=by rw[IntKind.wrap_i64];omega
 have j6:¬(L.length:Int)+1=0:=by omega
 have HPK:=hid (show pickD L q=L.getD u .zero by unfold pickD;rw[hu]);have HR:=hid hR;have HB0:=hid (show Below w.heap.size w (w.alloc (.cells #[(0:Int),(0:Int),(0:Int)] 108)) from(Below.refl _ _).alloc (Nat.le_refl _) _);clear hu hR;rw[HPK.out];by_cases h:u=L.length
 ·have k1:((u:Int) == (L.length:Int))=true:=by rw[beq_iff_eq];omega
  have HZ:=hid (show L.getD u Gid.zero=Gid.zero by rw[List.getD_eq_getElem?_getD,List.getElem?_eq_none (by omega)];rfl);rw[HZ.out];go_enter Tryz.func143,Tryz.ntmps143;go_wp2;refine bodyPost_ret (v:= .agg #[(0:Int),(0:Int),(0:Int)]) (by simp[results,Tryz.results143,go_sem]) rfl ?_;exact⟨rfl,HB0.out⟩
 ·have k1:((u:Int) == (L.length:Int))=false:=by rw[beq_eq_false_iff_ne];omega
  have k2:(0:Int)<=(u:Int):=by omega
  have k3:(u:Int)<(L.length:Int):=by omega
  obtain⟨rb,ro,rfl,-,hrb,hrange⟩:=HR.out.range (λ_=>rfl) (k:=u) (by omega);generalize L.getD u Gid.zero=x at *;obtain⟨⟨t,r⟩,n⟩:=x;have HRG:=hid (rangeB (show w.rangeAt rb (ro+u*3) [t,r,n] from hrange) hrb HB0.out);clear hrange hrb;go_enter Tryz.func143,Tryz.ntmps143
  go_wp2_with (first
   |(refine wpList_load_mid rfl _ _ rfl rb (ro+u*3) rfl [t,r,n] _ HRG.out Tryz.underlying108 rfl (by kernel_rfl) ?_)
   |(refine store_last rfl _ _ _ rfl _ _ _ _ rfl ?_ rfl ?_ ?_ ?_ ?_;(focus(simp;done));kernel_rfl;rfl;rfl))
  refine bodyPost_ret (v:= .agg #[t,r,n]) (by simp[results,Tryz.results143,go_sem]) rfl ?_;exact⟨rfl,(Below.refl _ _).alloc (Nat.le_refl _) _⟩
theorem joined_any (L M:List Gid) (A A2:Option Addr) (c c2 B B2:Nat) (w:World) (hl:L.length<=100000) (hl2:M.length<=100000) (hO:w.ownsRow B 108 3 (.slice A L.length c) L.length (L.flatMap idL)) (hO2:w.ownsRow B2 108 3 (.slice A2 M.length c2) M.length (M.flatMap idL)):
  Calls Tryz.prog 144 #[.slice A L.length c,.slice A2 M.length c2] w λe w'=>∃A' c',e= .returned (.slice A' (L++M).length c')∧w'.ownsRow w.heap.size 108 3 (.slice A' (L++M).length c') (L++M).length ((L++M).flatMap idL)∧Below w.heap.size w w':=by
 obtain⟨i0,hi,hz0,hz1,hz2⟩:=info_parts info_id;have hx:=row_at hO;have hx2:=row_at hO2;have hbb:∀ad,A2=some ad->ad.block<w.heap.size:=λad e=>by
  rcases hO2.2 with⟨e1,e2⟩|⟨g,cap,cur,e1,e2,e3,e4⟩
  ·injection e1 with e5;rw[e5] at e;cases e
  ·injection e1 with e5;rw[e5] at e;injection e with e;rw[<-e];exact lt_of_block e3
 clear hO hO2;have HFL:=hid (flat_len (f:=idL) (s:=3) (λ_=>rfl) L);have HFM:=hid (flat_len (f:=idL) (s:=3) (λ_=>rfl) M);have HUL:=hid (show ∀u∈L.flatMap idL,u.oneCell'=true from λu hu=>by obtain⟨x,-,hx⟩:=List.mem_flatMap.1 hu;exact oc_idL x u hx);have HUM:=hid (show ∀u∈M.flatMap idL,u.oneCell'=true from λu hu=>by obtain⟨x,-,hx⟩:=List.mem_flatMap.1 hu;exact oc_idL x u hx);cases A with
 | none=>
  have h0:=hx.1 rfl;obtain rfl:L=[]:=List.length_eq_zero_iff.1 h0;cases A2 with
  |none=>
   have h1:=hx2.1 rfl;obtain rfl:M=[]:=List.length_eq_zero_iff.1 h1;go_enter Tryz.func144,Tryz.ntmps144;go_wp2;go_ret;exact⟨none,0,rfl,World.ownsRow_nil _ _ _ _,Below.refl _ _⟩
  |some ad2=>
   have HC2:=hid (hx2.2 ad2 rfl);clear hx hx2;go_enter Tryz.func144,Tryz.ntmps144;go_upto_region 3 with fail;go_wp2_with (at_builtin;refine wpList_append_own _ rfl _ _ 123 rfl w.heap.size 108 i0 (.agg #[(0:Int),(0:Int),(0:Int)]) 3 24 Tryz.underlying123 hi hz0 hz1 hz2 rfl (by decide) (.slice none 0 0) 0 _ rfl (by exact(World.ownsRow_nil w w.heap.size 108 3)) ad2 M.length c2 (M.flatMap idL) rfl HFM.out HC2.out HUM.out (by unfold maxLen;omega) (by omega) (by simp) ?_;intro v' w5 hown hgrow _;have HO5:=hid hown;have HB5:=hid (Below.grown (Below.refl w.heap.size w) hgrow (by simp) (λb hb=>(World.ownsRow.lt (World.ownsRow_nil w w.heap.size 108 3) b hb).1));clear hown hgrow);obtain⟨A9,c9,rfl⟩:=row_slice HO5.out;rw[Nat.zero_add] at HO5 ⊢;go_ret;exact⟨A9,c9,rfl,HO5.out,HB5.out⟩
 | some ad=>
  have HC:=hid (hx.2 ad rfl);cases A2 with
  | none=>
   have h1:=hx2.1 rfl;obtain rfl:M=[]:=List.length_eq_zero_iff.1 h1;clear hx hx2;go_enter Tryz.func144,Tryz.ntmps144;go_upto_region 3 with(at_builtin;refine wpList_append_own _ rfl _ _ 123 rfl w.heap.size 108 i0 (.agg #[(0:Int),(0:Int),(0:Int)]) 3 24 Tryz.underlying123 hi hz0 hz1 hz2 rfl (by decide) (.slice none 0 0) 0 _ rfl (by exact(World.ownsRow_nil w w.heap.size 108 3)) ad L.length c (L.flatMap idL) rfl HFL.out HC.out HUL.out (by unfold maxLen;omega) (by omega) (by simp) ?_;intro v' w5 hown hgrow _;have HO5:=hid hown;have HB5:=hid (Below.grown (Below.refl w.heap.size w) hgrow (by simp) (λb hb=>(World.ownsRow.lt (World.ownsRow_nil w w.heap.size 108 3) b hb).1));clear hown hgrow);rw[Nat.zero_add] at HO5;obtain⟨A9,c9,rfl⟩:=row_slice HO5.out;have HO6:=hid (show w5.ownsRow w.heap.size 108 3 (.slice A9 L.length c9) L.length ((L++[]).flatMap idL) by rw[List.append_nil];exact HO5.out);rcases HO6.out.2 with⟨e1,e2⟩|⟨g,cap,cur,e1,e2,e3,e4,e5,e6⟩
   ·injection e1 with e7 e8 e9;subst e7;have hL:L=[]:=List.length_eq_zero_iff.1 e8;subst hL e9;go_wp2;go_ret;exact⟨none,0,rfl,HO6.out,HB5.out⟩
   ·injection e1 with e7 e8 e9;subst e7 e9;have k1:¬c9<L.length:=by omega
    have k2:¬c9<L.length+0:=by omega
    have HU:=hid e4;clear e2 e3 e5 e6 e8;go_wp2;go_ret
    first
     |exact⟨_,c9,rfl,HO6.out,HB5.out⟩
     |(have h9:=HO6.out;refine⟨_,c9,rfl,?_,HB5.out⟩;simpa using h9)
  |some ad2=>
   have HC2:=hid (hx2.2 ad2 rfl);have HBB:=hid (hbb ad2 rfl);clear hx hx2 hbb;go_enter Tryz.func144,Tryz.ntmps144;go_upto_region 3 with(at_builtin;refine wpList_append_own _ rfl _ _ 123 rfl w.heap.size 108 i0 (.agg #[(0:Int),(0:Int),(0:Int)]) 3 24 Tryz.underlying123 hi hz0 hz1 hz2 rfl (by decide) (.slice none 0 0) 0 _ rfl (by exact(World.ownsRow_nil w w.heap.size 108 3)) ad L.length c (L.flatMap idL) rfl HFL.out HC.out HUL.out (by unfold maxLen;omega) (by omega) (by simp) ?_;intro v' w5 hown hgrow _;have HO5:=hid hown;have HB5:=hid (Below.grown (Below.refl w.heap.size w) hgrow (by simp) (λb hb=>(World.ownsRow.lt (World.ownsRow_nil w w.heap.size 108 3) b hb).1));clear hown hgrow);rw[Nat.zero_add] at HO5;obtain⟨A9,c9,rfl⟩:=row_slice HO5.out;have HO6:=hid HO5.out;have HB6:=hid HB5.out;have HC3:=hid (show ∀(j:Nat) (u:Value),(M.flatMap idL)[j]? =some u->w5.cell? (ad2.add j)=some u from λj u hj=>(World.cell?_of_block (w:=w) (w':=w5) (a:=ad2.add j) (by rw[show(ad2.add j).block=ad2.block from by unfold Addr.add;split<;>rfl];exact HB5.out.block _ HBB.out)).trans (HC2.out j u hj));generalize w5=w6 at *;clear HO5 HB5 HC HC2 HBB;have hsz6:=HB6.out.size
   go_wp2_with (at_builtin;refine wpList_append_own _ rfl _ _ 123 rfl w.heap.size 108 i0 (.agg #[(0:Int),(0:Int),(0:Int)]) 3 24 Tryz.underlying123 hi hz0 hz1 hz2 rfl (by decide) (.slice A9 L.length c9) L.length _ rfl (by exact HO6.out) ad2 M.length c2 (M.flatMap idL) rfl HFM.out HC3.out HUM.out (by unfold maxLen;omega) (by omega) (by omega) ?_;intro v' w5 hown hgrow _;have HO5:=hid hown;have HB5:=hid (Below.grown HB6.out hgrow (by omega) (λb hb=>(World.ownsRow.lt HO6.out b hb).1));clear hown hgrow);obtain⟨A8,c8,rfl⟩:=row_slice HO5.out;have HO8:=hid (show w5.ownsRow w.heap.size 108 3 (.slice A8 (L++M).length c8) (L++M).length ((L++M).flatMap idL) by rw[List.length_append,List.flatMap_append];exact HO5.out);go_ret;refine⟨A8,c8,?_,?_,HB5.out⟩
   ·first
     |rfl
     |(rw[List.length_append];rfl)
     |simp
   ·first
     |exact HO8.out
     |(have h9:=HO8.out;rw[List.length_append] at h9;exact h9)
     |(have h9:=HO8.out;simpa using h9)
def opsN (d:Bool) (l:List Gop):List Gid:=(l.filter (λo=>decide (o.kind=0) && (o.dir == d))).map (·.node)
def nodesL (d:Bool) (L:List (Grp×GrX)):List Gid:=L.flatMap λp=>opsN d p.1.ops
theorem opsN_succ (d:Bool) {l:List Gop} {j:Nat} (h:j<l.length):opsN d (l.take (j+1))=opsN d (l.take j)++(if (decide ((l.getD j (opO 0 .zero)).kind=0) && ((l.getD j (opO 0 .zero)).dir == d))=true then [(l.getD j (opO 0 .zero)).node] else []):=by
 unfold opsN;rw[takeD_succ h (opO 0 .zero),List.filter_append,List.map_append];congr 1;generalize l.getD j (opO 0 .zero)=o;cases e:(decide (o.kind=0) && (o.dir == d))<;>simp[List.filter,e]
def opsR (x:Gid) (l:List Gop):List Rn:=(l.filter (λo=>decide (o.kind=3) && o.node.eqb x)).map λo=>⟨o.after,o.elem,o.text⟩
def runsL (x:Gid) (L:List (Grp×GrX)):List Rn:=L.flatMap λp=>opsR x p.1.ops
theorem opsR_succ (x:Gid) {l:List Gop} {j:Nat} (h:j<l.length):opsR x (l.take (j+1))=opsR x (l.take j)++(if (decide ((l.getD j (opO 0 .zero)).kind=3) && (l.getD j (opO 0 .zero)).node.eqb x)=true then [⟨(l.getD j (opO 0 .zero)).after,(l.getD j (opO 0 .zero)).elem,(l.getD j (opO 0 .zero)).text⟩] else []):=by
 unfold opsR;rw[takeD_succ h (opO 0 .zero),List.filter_append,List.map_append];congr 1;generalize l.getD j (opO 0 .zero)=o;cases e:(decide (o.kind=3) && o.node.eqb x)<;>simp[List.filter,e]
theorem nodes_any (L:List (Grp×GrX)) (A:Option Addr) (c:Nat) (d:Bool) (S:Nat->Prop) (w:World) (hl:L.length<=1000) (hlo:∀p∈L,p.1.ops.length<=1000) (hR:RowGr w A L) (hG:∀p∈L,GrG w S p):
  Calls Tryz.prog 142 #[.slice A L.length c,d] w λe w'=>∃A' c',e= .returned (.slice A' (nodesL d L).length c')∧w'.ownsRow w.heap.size 108 3 (.slice A' (nodesL d L).length c') (nodesL d L).length ((nodesL d L).flatMap idL)∧Below w.heap.size w w':=by
 obtain⟨i0,hi,hz0,hz1,hz2⟩:=info_parts info_id;have HR:=hid hR;have HG:=hid hG;clear hR hG;go_enter Tryz.func142,Tryz.ntmps142;have HLO:=hid hlo;clear hlo;go_upto_region 3 with fail;go_loopw [5,6] (λo i wr=>∃(k:Nat) (A':Option Addr) (c' m:Nat),k<=L.length∧i= .int .i64 k∧o= .slice A' m c'∧m<=k*1000∧Hid (m=(nodesL d (L.take k)).length)∧Hid (wr.ownsRow w.heap.size 108 3 (.slice A' m c') m ((nodesL d (L.take k)).flatMap idL))∧Hid (Below w.heap.size w wr)) (λo i _=>L.length-(RowKit.intOf i).toNat)
 case atStart=>exact⟨0,none,0,0,Nat.zero_le _,rfl,rfl,Nat.zero_le _,hid rfl,hid (World.ownsRow_nil _ _ _ _),hid (Below.refl _ _)⟩
 case round=>
  obtain⟨k,A',c',m,hk,rfl,rfl,hmk,HML,HO,HBr⟩:=hrel;by_cases hlt:k<L.length
  ·have i1:(0:Int)<=(k:Int):=by omega
   have i2:(k:Int)<(L.length:Int):=by omega
   obtain⟨rb,ro,rfl,hrb,hrange⟩:=HR.out.range hlt;have hst:nodesL d (L.take (k+1))=nodesL d (L.take k)++opsN d (L.getD k gp0).1.ops:=by rw[takeD_succ hlt gp0];simp[nodesL]
   have hop:=(HG.out _ (getD_memF hlt gp0)).ops;have hol:=HLO.out _ (getD_memF hlt gp0);generalize nodesL d (L.take k)=N at *;generalize L.getD k gp0=p at *;obtain⟨⟨⟨t,r⟩,n,dv,⟨ut,ur⟩,ops⟩,⟨dA,dc,oA,oc⟩⟩:=p;obtain⟨X,hX1,hX2⟩:=hop;have hol:ops.length<=1000:=hol;have HRW:=hid (λW (hB:Below w.heap.size w W)=>show W.rangeAt rb (ro+k*7) [t,r,n,.slice dA dv.length dc,ut,ur,.slice oA ops.length oc] from rangeB hrange hrb hB);have HX1:=hid hX1;have HST:=hid (show nodesL d (L.take (k+1))=N++opsN d ops from hst);have hsz:=HBr.out.size;clear hrange hrb hst hX1 hX2;generalize wr=w0 at *;go_upto_region 6 with fail;go_loopw [5,7] (λo i wr=>∃(j:Nat) (A':Option Addr) (c' m:Nat),j<=ops.length∧i= .int .i64 j∧o= .slice A' m c'∧m<=k*1000+j∧Hid (m=(N++opsN d (ops.take j)).length)∧Hid (wr.ownsRow w.heap.size 108 3 (.slice A' m c') m ((N++opsN d (ops.take j)).flatMap idL))∧Hid (Below w.heap.size w wr)) (λo i _=>ops.length-(RowKit.intOf i).toNat)
   case atStart=>exact⟨0,A',c',m,Nat.zero_le _,rfl,rfl,hmk,hid (by rw[HML.out];simp[opsN]),hid (by have h9:=HO.out;simpa[opsN] using h9),HBr⟩
   case round=>
    obtain⟨j,A',c',m,hj,rfl,rfl,hmj,HML,HO,HBr⟩:=hrel;have HRG:=hid (HRW.out wr HBr.out);have hszr:=HBr.out.size;have g6:wr.cell? ⟨rb,ro+k*7+6,none⟩=some (.slice oA ops.length oc):=HRG.out 6 _ rfl;by_cases hjl:j<ops.length
    ·have j1:(0:Int)<=(j:Int):=by omega
     have j2:(j:Int)<(ops.length:Int):=by omega
     obtain⟨ob,oo,rfl,-,hob,hoc⟩:=HX1.out j hjl;have hor:=op_range hoc;have hst2:=opsN_succ d hjl;generalize ops.getD j (opO 0 .zero)=o at *;generalize X j=x at *;obtain⟨kd,⟨⟨nt,nr⟩,ni⟩,⟨⟨pt,pr⟩,pi⟩,nm,dd,dots,⟨⟨at_,ar⟩,ai⟩,⟨⟨et,er⟩,ei⟩,tx,elems⟩:=o;obtain⟨sA,sc,eA,ec⟩:=x;have HOR:=hid (λW (hB:Below w.heap.size w W)=>show W.rangeAt ob (oo+j*18) [kd,nt,nr,ni,pt,pr,pi,nm,dd,.slice sA dots.length sc,at_,ar,ai,et,er,ei,tx,.slice eA elems.length ec] from rangeB hor hob hB);have HS2:=hid hst2;clear hor hob hoc hst2;obtain⟨b1,hb1⟩:∃b,b=decide (kd=0):=⟨_,rfl⟩;obtain⟨b2,hb2⟩:∃b,b=(dd == d):=⟨_,rfl⟩;have q1:(kd == 0)=b1:=by rw[hb1];rfl
     have q2:(dd == d)=b2:=hb2.symm;have HS2:=hid (show opsN d (ops.take (j+1))=opsN d (ops.take j)++(if (b1 && b2)=true then [⟨⟨nt,nr⟩,ni⟩] else []) by rw[HS2.out,hb1,hb2]);have HOw:=hid (HOR.out wr HBr.out);have z0:wr.cell? ⟨ob,oo+j*18,none⟩=some (.int .i64 kd):=HOw.out 0 _ rfl;have z8:wr.cell? ⟨ob,oo+j*18+8,none⟩=some (.bool dd):=HOw.out 8 _ rfl;have HNW:=hid (show wr.rangeAt ob (oo+j*18+1) [nt,nr,ni] from range_mid (pre:=[kd]) (post:=[pt,pr,pi,nm,dd,.slice sA dots.length sc,at_,ar,ai,et,er,ei,tx,.slice eA elems.length ec]) HOw.out);clear hb1 hb2;cases b1 with
     |false=>
      go_wp2;go_roundw
      case rel=>exact⟨j+1,A',c',m,by omega,by go_num,rfl,by omega,hid (by rw[HS2.out];simpa using HML.out),hid (by rw[HS2.out];simpa using HO.out),HBr⟩
      case measure=>(simp[RowKit.intOf];omega)
     | true=>
      cases b2 with
      |false=>
       go_wp2;go_roundw
       case rel=>exact⟨j+1,A',c',m,by omega,by go_num,rfl,by omega,hid (by rw[HS2.out];simpa using HML.out),hid (by rw[HS2.out];simpa using HO.out),HBr⟩
       case measure=>(simp[RowKit.intOf];omega)
      | true=>
       go_wp2_with (first
        |(refine wpList_load_mid rfl _ _ rfl ob (oo+j*18+1) rfl [nt,nr,ni] _ HNW.out Tryz.underlying108 rfl (by kernel_rfl) ?_)
        |(at_builtin;refine wpList_append_lies _ rfl _ _ 123 rfl w.heap.size 108 i0 (.agg #[(0:Int),(0:Int),(0:Int)]) 3 24 Tryz.underlying123 hi hz0 hz1 hz2 rfl (by decide) (.slice A' m c') m _ rfl (by exact HO.out.alloc _) ⟨wr.heap.size,0,none⟩ 1 1 [nt,nr,ni] rfl rfl (λj y h=>cellsN wr [nt,nr,ni] 108 j y h) (oc_of (c:=#[nt,nr,ni]) rfl) (by decide) (by unfold maxLen;omega) (by omega) (by simp;omega) (wr.heap.size+1) (by simp) ?_;intro gq cap w5 hown hgrow ha hlt5;have HO5:=hid hown;have HB5:=hid ((HBr.out.alloc hszr _).grown hgrow (by simp;omega) (λb hb=>(HO.out.lt b hb).1));clear hown hgrow ha hlt5))
       go_roundw
       case rel=>exact⟨j+1,some ⟨gq,0,none⟩,cap,m+1,by omega,by go_num,rfl,by omega,hid (by rw[HS2.out,if_pos (show(true && true)=true from rfl),<-List.append_assoc,List.length_append,<-HML.out];rfl),hid (by rw[HS2.out,if_pos (show(true && true)=true from rfl),<-List.append_assoc,List.flatMap_append];exact HO5.out),HB5⟩
       case measure=>(simp[RowKit.intOf];omega)
    ·obtain rfl:j=ops.length:=by omega
     have j2:¬(ops.length:Int)<(ops.length:Int):=by omega
     have HM9:=hid (show m=(nodesL d (L.take (k+1))).length by rw[HST.out];have h9:=HML.out;rw[List.take_length] at h9;exact h9);have HO9:=hid (show wr.ownsRow w.heap.size 108 3 (.slice A' m c') m ((nodesL d (L.take (k+1))).flatMap idL) by rw[HST.out];have h9:=HO.out;rw[List.take_length] at h9;exact h9);go_wp2;go_roundw
     case rel=>exact⟨k+1,A',c',m,by omega,by go_num,rfl,by omega,HM9,HO9,HBr⟩
     case measure=>(simp[RowKit.intOf];omega)
  ·obtain rfl:k=L.length:=by omega
   have i2:¬(L.length:Int)<(L.length:Int):=by omega
   have HM9:=hid (show m=(nodesL d L).length by have h9:=HML.out;rw[List.take_length] at h9;exact h9);have HO9:=hid (show wr.ownsRow w.heap.size 108 3 (.slice A' m c') m ((nodesL d L).flatMap idL) by have h9:=HO.out;rw[List.take_length] at h9;exact h9);go_wp2;go_ret;refine⟨A',c',by rw[<-HM9.out];rfl,?_,HBr.out⟩;rw[<-HM9.out];exact HO9.out
theorem runs_any (L:List (Grp×GrX)) (A:Option Addr) (c:Nat) (xt xr xi:Int) (S:Nat->Prop) (w00:World) (hl:L.length<=1000) (hlo:∀p∈L,p.1.ops.length<=1000) (hR:RowGr w00 A L) (hG:∀p∈L,GrG w00 S p):
  Calls Tryz.prog 115 #[.slice A L.length c,.agg #[xt,xr,xi]] w00 λe w'=>∃A' c',e= .returned (.slice A' (runsL ⟨⟨xt,xr⟩,xi⟩ L).length c')∧w'.ownsRow w00.heap.size 238 7 (.slice A' (runsL ⟨⟨xt,xr⟩,xi⟩ L).length c') (runsL ⟨⟨xt,xr⟩,xi⟩ L).length ((runsL ⟨⟨xt,xr⟩,xi⟩ L).flatMap rnL)∧Below w00.heap.size w00 w':=by
 obtain⟨i0,hi,hz0,hz1,hz2⟩:=info_parts info_rn;have hb0:Below w00.heap.size w00 (w00.alloc (.cells #[xt,xr,xi] 108)):=(Below.refl _ _).alloc (Nat.le_refl _) _;have HB0:=hid hb0;have HXC:=hid (heap_alloc_new w00 (.cells #[xt,xr,xi] 108));have HR:=hid (hR.below hb0);have HG:=hid (λp hp=>(hG p hp).agr (Agr.below hb0));clear hR hG hb0;go_enter Tryz.func115,Tryz.ntmps115;go_upto_region 1 with fail;generalize hW:w00.alloc (.cells #[xt,xr,xi] 108)=w at *;clear hW;generalize hxb:w00.heap.size=xb at *;have HXB:=hid hxb;clear hxb;have HLO:=hid hlo;clear hlo;go_upto_region 3 with fail;go_loopw [5,6] (λo i wr=>∃(k:Nat) (A':Option Addr) (c' m:Nat),k<=L.length∧i= .int .i64 k∧o= .slice A' m c'∧m<=k*1000∧Hid (m=(runsL ⟨⟨xt,xr⟩,xi⟩ (L.take k)).length)∧Hid (wr.ownsRow w.heap.size 238 7 (.slice A' m c') m ((runsL ⟨⟨xt,xr⟩,xi⟩ (L.take k)).flatMap rnL))∧Hid (Below w.heap.size w wr)) (λo i _=>L.length-(RowKit.intOf i).toNat)
 case atStart=>exact⟨0,none,0,0,Nat.zero_le _,rfl,rfl,Nat.zero_le _,hid rfl,hid (World.ownsRow_nil _ _ _ _),hid (Below.refl _ _)⟩
 case round=>
  obtain⟨k,A',c',m,hk,rfl,rfl,hmk,HML,HO,HBr⟩:=hrel;by_cases hlt:k<L.length
  ·have i1:(0:Int)<=(k:Int):=by omega
   have i2:(k:Int)<(L.length:Int):=by omega
   obtain⟨rb,ro,rfl,hrb,hrange⟩:=HR.out.range hlt;have hst:runsL ⟨⟨xt,xr⟩,xi⟩ (L.take (k+1))=runsL ⟨⟨xt,xr⟩,xi⟩ (L.take k)++opsR ⟨⟨xt,xr⟩,xi⟩ (L.getD k gp0).1.ops:=by rw[takeD_succ hlt gp0];simp[runsL]
   have hop:=(HG.out _ (getD_memF hlt gp0)).ops;have hol:=HLO.out _ (getD_memF hlt gp0);generalize runsL ⟨⟨xt,xr⟩,xi⟩ (L.take k)=N at *;generalize L.getD k gp0=p at *;obtain⟨⟨⟨t,r⟩,n,dv,⟨ut,ur⟩,ops⟩,⟨dA,dc,oA,oc⟩⟩:=p;obtain⟨X,hX1,hX2⟩:=hop;have hol:ops.length<=1000:=hol;have HRW:=hid (λW (hB:Below w.heap.size w W)=>show W.rangeAt rb (ro+k*7) [t,r,n,.slice dA dv.length dc,ut,ur,.slice oA ops.length oc] from rangeB hrange hrb hB);have HX1:=hid hX1;have HST:=hid (show runsL ⟨⟨xt,xr⟩,xi⟩ (L.take (k+1))=N++opsR ⟨⟨xt,xr⟩,xi⟩ ops from hst);have hsz:=HBr.out.size;clear hrange hrb hst hX1 hX2;generalize wr=w0 at *;go_upto_region 6 with fail;go_loopw [5,7] (λo i wr=>∃(j:Nat) (A':Option Addr) (c' m:Nat),j<=ops.length∧i= .int .i64 j∧o= .slice A' m c'∧m<=k*1000+j∧Hid (m=(N++opsR ⟨⟨xt,xr⟩,xi⟩ (ops.take j)).length)∧Hid (wr.ownsRow w.heap.size 238 7 (.slice A' m c') m ((N++opsR ⟨⟨xt,xr⟩,xi⟩ (ops.take j)).flatMap rnL))∧Hid (Below w.heap.size w wr)) (λo i _=>ops.length-(RowKit.intOf i).toNat)
   case atStart=>exact⟨0,A',c',m,Nat.zero_le _,rfl,rfl,hmk,hid (by rw[HML.out];simp[opsR]),hid (by have h9:=HO.out;simpa[opsR] using h9),HBr⟩
   case round=>
    obtain⟨j,A',c',m,hj,rfl,rfl,hmj,HML,HO,HBr⟩:=hrel;have HRG:=hid (HRW.out wr HBr.out);have hszr:=HBr.out.size;have g6:wr.cell? ⟨rb,ro+k*7+6,none⟩=some (.slice oA ops.length oc):=HRG.out 6 _ rfl;by_cases hjl:j<ops.length
    ·have j1:(0:Int)<=(j:Int):=by omega
     have j2:(j:Int)<(ops.length:Int):=by omega
     obtain⟨ob,oo,rfl,-,hob,hoc⟩:=HX1.out j hjl;have hor:=op_range hoc;have hst2:=opsR_succ ⟨⟨xt,xr⟩,xi⟩ hjl;generalize ops.getD j (opO 0 .zero)=o at *;generalize X j=x at *;obtain⟨kd,⟨⟨nt,nr⟩,ni⟩,⟨⟨pt,pr⟩,pi⟩,nm,dd,dots,⟨⟨at_,ar⟩,ai⟩,⟨⟨et,er⟩,ei⟩,tx,elems⟩:=o;obtain⟨sA,sc,eA,ec⟩:=x;have HOR:=hid (λW (hB:Below w.heap.size w W)=>show W.rangeAt ob (oo+j*18) [kd,nt,nr,ni,pt,pr,pi,nm,dd,.slice sA dots.length sc,at_,ar,ai,et,er,ei,tx,.slice eA elems.length ec] from rangeB hor hob hB);have HS2:=hid hst2;clear hor hob hoc hst2;obtain⟨b1,hb1⟩:∃b,b=decide (kd=3):=⟨_,rfl⟩;obtain⟨b2,hb2⟩:∃b,b=Gid.eqb ⟨⟨nt,nr⟩,ni⟩ ⟨⟨xt,xr⟩,xi⟩:=⟨_,rfl⟩;have q1:(kd == 3)=b1:=by rw[hb1];rfl
     have q2:=eq_id nt nr ni xt xr xi b2 hb2.symm;have HS2:=hid (show opsR ⟨⟨xt,xr⟩,xi⟩ (ops.take (j+1))=opsR ⟨⟨xt,xr⟩,xi⟩ (ops.take j)++(if (b1 && b2)=true then [(⟨⟨⟨at_,ar⟩,ai⟩,⟨⟨et,er⟩,ei⟩,tx⟩:Rn)] else []) by rw[HS2.out,hb1,hb2]);have HOw:=hid (HOR.out wr HBr.out);clear hb1 hb2
     go_upto_region 9 with(first
      |(refine wpList_load_mid rfl _ _ rfl ob (oo+j*18) rfl [kd,nt,nr,ni,pt,pr,pi,nm,dd,.slice sA dots.length sc,at_,ar,ai,et,er,ei,tx,.slice eA elems.length ec] _ HOw.out Tryz.underlying125 rfl (by kernel_rfl) ?_)
      |(refine store_last rfl _ _ _ rfl _ _ _ _ rfl ?_ rfl ?_ ?_ ?_ ?_;(focus(simp;done));kernel_rfl;rfl;rfl))
     have hba:=HBr.out.alloc hszr (.cells #[kd,nt,nr,ni,pt,pr,pi,nm,dd,.slice sA dots.length sc,at_,ar,ai,et,er,ei,tx,.slice eA elems.length ec] 125);have hbx:Below wr.heap.size wr (wr.alloc (.cells #[kd,nt,nr,ni,pt,pr,pi,nm,dd,.slice sA dots.length sc,at_,ar,ai,et,er,ei,tx,.slice eA elems.length ec] 125)):=(Below.refl _ _).alloc (Nat.le_refl _) _;have HCX:=hid (heap_alloc_new wr (.cells #[kd,nt,nr,ni,pt,pr,pi,nm,dd,.slice sA dots.length sc,at_,ar,ai,et,er,ei,tx,.slice eA elems.length ec] 125));have HXr:=hid ((hba.block xb (lt_of_block HXC.out)).trans HXC.out);generalize hW:wr.alloc (.cells #[kd,nt,nr,ni,pt,pr,pi,nm,dd,.slice sA dots.length sc,at_,ar,ai,et,er,ei,tx,.slice eA elems.length ec] 125)=W at *;have HBW:=hid hba;have hszW:=hba.size;have HOW:=hid (HO.out.kept (gby_below (r:=none) hbx) (Classical.em _));clear hW hba hbx;have z0:=cw0 HCX.out;have z1:=cw1 HCX.out;have z2:=cw2 HCX.out;have z3:=cw3 HCX.out;have z16:=cw16 HCX.out;have x0:=cw0 HXr.out;have x1:=cw1 HXr.out;have x2:=cw2 HXr.out;have HRB:=hid (show W.rangeAt wr.heap.size 0 [kd,nt,nr,ni,pt,pr,pi,nm,dd,.slice sA dots.length sc,at_,ar,ai,et,er,ei,tx,.slice eA elems.length ec] from range_of_block HCX.out);have HA1:=hid (show W.rangeAt wr.heap.size 10 [at_,ar,ai] from range_mid (pre:=[kd,nt,nr,ni,pt,pr,pi,nm,dd,.slice sA dots.length sc]) (post:=[et,er,ei,tx,.slice eA elems.length ec]) HRB.out)
     have HE1:=hid (show W.rangeAt wr.heap.size 13 [et,er,ei] from range_mid (pre:=[kd,nt,nr,ni,pt,pr,pi,nm,dd,.slice sA dots.length sc,at_,ar,ai]) (post:=[tx,.slice eA elems.length ec]) HRB.out);cases b1 with
     |false=>
      go_wp2;go_roundw
      case rel=>exact⟨j+1,A',c',m,by omega,by go_num,rfl,by omega,hid (by rw[HS2.out];simpa using HML.out),hid (by rw[HS2.out];simpa using HOW.out),HBW⟩
      case measure=>(simp[RowKit.intOf];omega)
     | true=>
      cases b2 with
      |false=>
       go_wp2;go_roundw
       case rel=>exact⟨j+1,A',c',m,by omega,by go_num,rfl,by omega,hid (by rw[HS2.out];simpa using HML.out),hid (by rw[HS2.out];simpa using HOW.out),HBW⟩
       case measure=>(simp[RowKit.intOf];omega)
      | true=>
       go_wp2_with (first
        |(refine wpList_load_mid rfl _ _ rfl wr.heap.size (10) rfl [at_,ar,ai] _ HA1.out Tryz.underlying108 rfl (by kernel_rfl) ?_)
        |(refine wpList_load_mid rfl _ _ rfl wr.heap.size (13) rfl [et,er,ei] _ HE1.out Tryz.underlying108 rfl (by kernel_rfl) ?_)
        |(at_builtin;refine wpList_append_lies _ rfl _ _ 171 rfl w.heap.size 238 i0 (.agg #[(0:Int),(0:Int),(0:Int),(0:Int),(0:Int),(0:Int),.string ⟨#[]⟩]) 7 64 Tryz.underlying171 hi hz0 hz1 hz2 rfl (by decide) (.slice A' m c') m _ rfl (by exact HOW.out.alloc _) ⟨W.heap.size,0,none⟩ 1 1 [at_,ar,ai,et,er,ei,tx] rfl rfl (λj y h=>cellsN W [at_,ar,ai,et,er,ei,tx] 238 j y h) (oc_of (c:=#[at_,ar,ai,et,er,ei,tx]) rfl) (by decide) (by unfold maxLen;omega) (by omega) (by simp;omega) (W.heap.size+1) (by simp) ?_;intro gq cap w5 hown hgrow ha hlt5;have HO5:=hid hown;have HB5:=hid ((HBW.out.alloc hszW _).grown hgrow (by simp;omega) (λb hb=>(HOW.out.lt b hb).1));clear hown hgrow ha hlt5))
       go_roundw
       case rel=>exact⟨j+1,some ⟨gq,0,none⟩,cap,m+1,by omega,by go_num,rfl,by omega,hid (by rw[HS2.out,if_pos (show(true && true)=true from rfl),<-List.append_assoc,List.length_append,<-HML.out];rfl),hid (by rw[HS2.out,if_pos (show(true && true)=true from rfl),<-List.append_assoc,List.flatMap_append];exact HO5.out),HB5⟩
       case measure=>(simp[RowKit.intOf];omega)
    ·obtain rfl:j=ops.length:=by omega
     have j2:¬(ops.length:Int)<(ops.length:Int):=by omega
     have HM9:=hid (show m=(runsL ⟨⟨xt,xr⟩,xi⟩ (L.take (k+1))).length by rw[HST.out];have h9:=HML.out;rw[List.take_length] at h9;exact h9);have HO9:=hid (show wr.ownsRow w.heap.size 238 7 (.slice A' m c') m ((runsL ⟨⟨xt,xr⟩,xi⟩ (L.take (k+1))).flatMap rnL) by rw[HST.out];have h9:=HO.out;rw[List.take_length] at h9;exact h9);go_wp2;go_roundw
     case rel=>exact⟨k+1,A',c',m,by omega,by go_num,rfl,by omega,HM9,HO9,HBr⟩
     case measure=>(simp[RowKit.intOf];omega)
  ·obtain rfl:k=L.length:=by omega
   have i2:¬(L.length:Int)<(L.length:Int):=by omega
   have HM9:=hid (show m=(runsL ⟨⟨xt,xr⟩,xi⟩ L).length by have h9:=HML.out;rw[List.take_length] at h9;exact h9);have HO9:=hid (show wr.ownsRow w.heap.size 238 7 (.slice A' m c') m ((runsL ⟨⟨xt,xr⟩,xi⟩ L).flatMap rnL) by have h9:=HO.out;rw[List.take_length] at h9;exact h9);obtain rfl:=HXB.out;go_wp2;go_ret;refine⟨A',c',by rw[<-HM9.out];rfl,?_,HB0.out.trans (HBr.out.mono HB0.out.size)⟩;rw[<-HM9.out];exact own_base HO9.out HB0.out.size
end
section
open Go.RowKit Go.Lib Go.Sort
def strL (t:ByteArray):List Value:=[t]
def SpR (r:Option Nat) (w:World) (e:Ending) (w':World):Prop:=match r with
 |none=>e= .returned (.tuple #[.slice none 0 0,(60:Int)])∧Below w.heap.size w w'
 |some m=>∃A c,∃ps:List ByteArray,m=ps.length∧e= .returned (.tuple #[.slice A m c,(0:Int)])∧w'.ownsRow w.heap.size 9 1 (.slice A m c) m (ps.flatMap strL)∧Below w.heap.size w w'
theorem split6_row (s:ByteArray) (w:World) (hs:s.size<=1000000):
  Calls Tryz.prog 193 #[s] w λe w'=>SpR (cnt s.data.toList) w e w':=by
 obtain⟨R,hR⟩:∃R,R=cnt s.data.toList:=⟨_,rfl⟩;rw[<-hR];have HR:=hid hR;clear hR;obtain⟨i0,hi,hz0,hz1,hz2⟩:=info_parts infoStr;go_enter Tryz.func193,Tryz.ntmps193;go_wp2;go_loopw [0,4] (λt v wr=>∃T:ByteArray,∃(A:Option Addr) (m c:Nat),∃ps:List ByteArray,t= .string T∧v= .slice A m c∧T.size+m<=s.size∧Hid (m=ps.length)∧Hid (wr.ownsRow w.heap.size 9 1 (.slice A m c) m (ps.flatMap strL))∧Hid (Below w.heap.size w wr)∧Hid (R=cntAdd m (cnt T.data.toList))) (λt _ _=>match t with| .string T=>T.size|_=>0)
 case atStart=>exact⟨s,none,0,0,[],rfl,rfl,by omega,hid rfl,hid (World.ownsRow_nil w w.heap.size 9 1),hid (Below.refl _ _),by
  show R=_;rw[HR.out]
  cases cnt s.data.toList<;>rfl⟩
 case round=>
  obtain⟨T,A,m,c,ps,rfl,rfl,hm,HM,HO,HB,HC⟩:=hrel;have hTl:T.data.toList.length=T.size:=by simp
  by_cases h0:0<T.size
  ·have hne:T.data.toList≠[]:=λe=>by rw[e] at hTl;simp at hTl;omega
   have hF:=first_any T wr (by omega) h0;cases hr:rfL T.data.toList with
   |none=>
    rw[hr] at hF;obtain rfl:R=none:=by rw[HC.out,cntAdd_none hne m hr]
    have HF:Hid (Calls Tryz.prog 212 #[T] wr λe w'=>e= .returned (.tuple #[(0:Int),(0:Int),false])∧w'=wr):=hF;clear hF hr hne hTl HO;go_wp2_with fail;refine HF.out.mono ?_;rintro e w1 ⟨rfl,rfl⟩;go_wp2;go_ret2;exact⟨rfl,HB.out⟩
   | some p=>
    obtain⟨cp,k⟩:=p;rw[hr] at hF;have hk:=rfL_width hne hr;rw[hTl] at hk;have HC2:Hid (R=cntAdd (m+1) (cnt (T.extract k T.size).data.toList)):=by
     show R=_;rw[HC.out,cntAdd_step hne m hr,drop_ext]
    have HF:Hid (Calls Tryz.prog 212 #[T] wr λe w'=>e= .returned (.tuple #[.int .i64 (cp:Nat),.int .i64 (k:Nat),true])∧w'=wr):=hF;obtain⟨hk1,hk2⟩:=hk;have b1:(0:Int)<=(k:Int):=by omega
    have b2:(k:Int)<=(T.size:Int):=by omega
    have hsz:=HB.out.size;have hex:(T.extract k T.size).size=T.size-k:=by rw[ByteArray.size_extract];omega
    have HEX:=hid hex;clear hF hr hne hTl hex;go_wp2_with fail;refine HF.out.mono ?_;rintro e w1 ⟨rfl,rfl⟩;have hO:=HO.out;go_wp2_with (at_builtin;refine wpList_append_own _ rfl _ _ 60 rfl w.heap.size 9 i0 (.string ⟨#[]⟩) 1 16 Tryz.underlying60 hi hz0 hz1 hz2 rfl (by decide) _ _ _ rfl (by exact hO.alloc _) ⟨w1.heap.size,0,none⟩ 1 1 [.string (T.extract 0 k)] rfl rfl (by exact cell1 _ _ _) (λu hu=>by simp at hu;subst hu;rfl) (by unfold maxLen;omega) (by omega) (by simp;omega) ?_;intro v' w3 hown' hgrow _);obtain⟨A',c',rfl⟩:∃A' c',v'=Value.slice A' (m+1) c':=by
     rcases hown'.2 with⟨rfl,h9⟩|⟨g,cap,cur,rfl,_⟩
     ·exact⟨_,_,by rw[show m+1=0 from h9]⟩
     ·exact⟨_,_,rfl⟩
    go_roundw
    case rel=>exact⟨_,A',m+1,c',ps++[T.extract 0 k],rfl,rfl,by rw[HEX.out];omega,hid (by rw[List.length_append,<-HM.out];rfl),hid (by rw[List.flatMap_append];exact hown'),hid ((HB.out.alloc (by omega) _).grown hgrow (by simp;omega) (λi h=>(hO.lt i h).1)),HC2⟩
    case measure=>show(T.extract k T.size).size<T.size;rw[HEX.out];omega
  ·have he:T.data.toList=[]:=by
    cases e:T.data.toList with
    |nil=>rfl
    |cons a l=>rw[e] at hTl;simp at hTl;omega
   obtain rfl:R=some m:=by rw[HC.out,he,cnt_nil];show some (0+m)=_;rw[Nat.zero_add]
   have hTs:T.size=0:=by omega
   obtain rfl:T=⟨#[]⟩:=bs_nil.1 he;clear hTl he hTs;go_wp2;go_ret2;exact⟨A,c,ps,HM.out,rfl,HO.out,HB.out⟩
end
section
open Go.RowKit Go.Lib Go.Sort
attribute [local go_sem ↓] Go.wp_at_zero Go.wp_at_succ
def findP (L:List Plc) (x:Gid):Option Nat:=L.findIdx? λy=>y.n.eqb x
def withinF (L:List Plc) (up:Gid):Nat->Gid->Bool
 |0,_=>true
 |f+1,x=>if x.eqb up=true then true else match findP L x with
  |none=>false
  |some k=>withinF L up f (L.getD k plc0).p
def within (L:List Plc) (x up:Gid):Bool:=withinF L up (L.length+1) x
theorem findP_lt {L:List Plc} {x:Gid} {k:Nat} (h:findP L x=some k):k<L.length∧(L.getD k plc0).n=x:=by
 unfold findP at h;rw[List.findIdx?_eq_some_iff_getElem] at h;obtain⟨hk,h1,-⟩:=h;refine⟨hk,?_⟩;rw[List.getD_eq_getElem?_getD,List.getElem?_eq_getElem hk];exact Gid.eqb_iff.1 h1
theorem within_any (L:List Plc) (A:Option Addr) (c:Nat) (xt xr xi ut ur ui:Int) (S:Nat->Prop) (w00:World) (hl:L.length<=100000) (hR:RowF w00 S A 8 plcL plc0 L):
  Calls Tryz.prog 168 #[.slice A L.length c,.agg #[xt,xr,xi],.agg #[ut,ur,ui]] w00 λe w'=>e= .returned (.bool (within L ⟨⟨xt,xr⟩,xi⟩ ⟨⟨ut,ur⟩,ui⟩))∧Below w00.heap.size w00 w':=by
 obtain⟨ans,hans⟩:∃b,b=within L ⟨⟨xt,xr⟩,xi⟩ ⟨⟨ut,ur⟩,ui⟩:=⟨_,rfl⟩;rw[<-hans];have HANS:=hid hans;have hb0:Below w00.heap.size w00 ((w00.alloc (.cells #[xt,xr,xi] 108)).alloc (.cells #[ut,ur,ui] 108)):=((Below.refl _ _).alloc (Nat.le_refl _) _).alloc (by simp) _;have hc1:=heap_alloc_new w00 (.cells #[xt,xr,xi] 108);have hc2:((w00.alloc (.cells #[xt,xr,xi] 108)).alloc (.cells #[ut,ur,ui] 108)).heap[w00.heap.size+1]? =some (.cells #[ut,ur,ui] 108 (0,0)):=heap_alloc_newC _ _ (by simp);have hc3:((w00.alloc (.cells #[xt,xr,xi] 108)).alloc (.cells #[ut,ur,ui] 108)).heap[w00.heap.size]? =some (.cells #[xt,xr,xi] 108 (0,0)):=(Below.heap_alloc _ _ _ (by simp)).trans hc1;have HB0:=hid hb0;have HX0:=hid hc3;have HU0:=hid hc2;have HR:=hid hR;clear hR hans hb0 hc1 hc2 hc3;go_enter Tryz.func168,Tryz.ntmps168;go_upto_region 2 with fail;generalize hW:(w00.alloc (.cells #[xt,xr,xi] 108)).alloc (.cells #[ut,ur,ui] 108)=w at *;clear hW;go_loopw [7] (λi wr=>∃(n:Nat) (x:Gid),n<=L.length+1∧i= .int .i64 n∧Hid (wr.heap[w00.heap.size]? =some (.cells (idL x).toArray 108 (0,0)))∧Hid (wr.heap[w00.heap.size+1]? =some (.cells #[ut,ur,ui] 108 (0,0)))∧Hid (ans=withinF L ⟨⟨ut,ur⟩,ui⟩ (L.length+1-n) x)∧Hid (Below w00.heap.size w00 wr)) (λi _=>L.length+1-(RowKit.intOf i).toNat)
 case atStart=>exact⟨0,⟨⟨xt,xr⟩,xi⟩,Nat.zero_le _,rfl,HX0,HU0,hid (by rw[HANS.out];rfl),HB0⟩
 case round=>
  obtain⟨n,x,hn,rfl,HX,HU,HA,HBr⟩:=hrel;by_cases hlt:n<=L.length
  ·have i1:(n:Int)<=(L.length:Int):=by omega
   obtain⟨f,hf⟩:∃f,L.length+1-n=f+1:=⟨L.length-n,by omega⟩;have HF:=hid (show L.length+1-(n+1)=f by omega);rw[hf] at HA;obtain⟨⟨t,r⟩,q⟩:=x;have HX:Hid (wr.heap[w00.heap.size]? =some (.cells #[t,r,q] 108 (0,0))):=HX;obtain⟨b,hb⟩:∃b,b=Gid.eqb ⟨⟨t,r⟩,q⟩ ⟨⟨ut,ur⟩,ui⟩:=⟨_,rfl⟩;have q1:=eq_id t r q ut ur ui b hb.symm;have HFD:=hid (show Calls Tryz.prog 169 #[.slice A L.length c,.agg #[t,r,q]] wr λe w'=>e= .returned (.int .i64 (ixI (findP L ⟨⟨t,r⟩,q⟩)))∧Below wr.heap.size wr w' from findplc_any L A c ⟨⟨t,r⟩,q⟩ S wr (by omega) (HR.out.below HBr.out));cases b with
   | true=>
    have HA2:=hid (show ans=true by rw[HA.out,withinF,if_pos hb.symm]);clear hb hf
    go_wp2_with (first
     |(refine load_at rfl _ _ rfl w00.heap.size _ _ _ rfl HX.out Tryz.underlying108 rfl ?_ ?_;kernel_rfl)
     |(refine load_at rfl _ _ rfl (w00.heap.size+1) _ _ _ rfl HU.out Tryz.underlying108 rfl ?_ ?_;kernel_rfl))
    go_ret;exact⟨by rw[HA2.out];rfl,HBr.out⟩
   | false=>
    cases hfd:findP L ⟨⟨t,r⟩,q⟩ with
    | none=>
     have HA2:=hid (show ans=false by rw[HA.out,withinF,if_neg (by rw[<-hb];decide),hfd]);rw[hfd] at HFD;clear hb hf hfd
     go_wp2_with (first
      |(refine load_at rfl _ _ rfl w00.heap.size _ _ _ rfl HX.out Tryz.underlying108 rfl ?_ ?_;kernel_rfl)
      |(refine load_at rfl _ _ rfl (w00.heap.size+1) _ _ _ rfl HU.out Tryz.underlying108 rfl ?_ ?_;kernel_rfl)
      |(go_at_call 169;refine HFD.out.mono ?_;rintro e w2 ⟨rfl,hB2⟩;have HB2:=hid hB2;clear hB2;dsimp only[ixI]))
     go_ret;exact⟨by rw[HA2.out];rfl,HBr.out.trans (HB2.out.mono HBr.out.size)⟩
    | some k=>
     obtain⟨hk,-⟩:=findP_lt hfd;have HA2:=hid (show ans=withinF L ⟨⟨ut,ur⟩,ui⟩ f (L.getD k plc0).p by rw[HA.out,withinF,if_neg (by rw[<-hb];decide),hfd]);rw[hfd] at HFD;obtain⟨rb,ro,rfl,-,hrb,hrange⟩:=HR.out.range (λ_=>rfl) hk;have i3:(0:Int)<=(k:Int):=by omega
     have i4:(k:Int)<(L.length:Int):=by omega
     have i5:¬(k:Int)<0:=by omega
     generalize L.getD k plc0=p at *;obtain⟨⟨⟨nt,nr⟩,ni⟩,⟨⟨pt,pr⟩,pi⟩,nm,dd⟩:=p;have HRW:=hid (λW (hB:Below w00.heap.size w00 W)=>show W.rangeAt rb (ro+k*8+3) [pt,pr,pi] from range_mid (pre:=[nt,nr,ni]) (post:=[nm,dd]) (rangeB hrange hrb hB));have HPC:=hid (show(#[pt,pr,pi]:Array Value).toList.all (·.oneCell')=true from rfl);clear hb hf hfd hrange hrb
     go_upto_region 9 with(first
      |(refine load_at rfl _ _ rfl w00.heap.size _ _ _ rfl HX.out Tryz.underlying108 rfl ?_ ?_;kernel_rfl)
      |(refine load_at rfl _ _ rfl (w00.heap.size+1) _ _ _ rfl HU.out Tryz.underlying108 rfl ?_ ?_;kernel_rfl)
      |(go_at_call 169;refine HFD.out.mono ?_;rintro e w2 ⟨rfl,hB2⟩;have HX2:=hid ((hB2.block _ (lt_of_block HX.out)).trans HX.out);have HU2:=hid ((hB2.block _ (lt_of_block HU.out)).trans HU.out);have HB2:=hid (HBr.out.trans (hB2.mono HBr.out.size));have HRX:=hid (HRW.out w2 HB2.out);clear hB2;dsimp only[ixI]))
     obtain⟨V,hV⟩:∃V,V=w2.setRow w00.heap.size #[pt,pr,pi]:=⟨_,rfl⟩;have HV:=hid hV;have HX3:=hid (show V.heap[w00.heap.size]? =some (.cells #[pt,pr,pi] 108 (0,0)) by rw[hV];exact heap_setRow_same _ HX2.out);have HU3:=hid (show V.heap[w00.heap.size+1]? =some (.cells #[ut,ur,ui] 108 (0,0)) by rw[hV,setRow_other _ _ _ _ (by omega)];exact HU2.out);have HB3:=hid (show Below w00.heap.size w00 V by rw[hV];exact Below.setRow' HB2.out (Nat.le_refl _) _);clear hV
     go_wp2_with (first
      |(refine wpList_load_mid rfl _ _ rfl rb (ro+k*8+3) rfl [pt,pr,pi] _ HRX.out Tryz.underlying108 rfl (by kernel_rfl) ?_)
      |(refine store_at rfl _ _ _ rfl w00.heap.size 108 #[t,r,q] #[pt,pr,pi] rfl rfl HX2.out (by kernel_rfl) rfl HPC.out ?_;rw[<-HV.out]))
     go_roundw
     case rel=>exact⟨n+1,⟨⟨pt,pr⟩,pi⟩,by omega,by go_num,HX3,HU3,hid (by rw[HF.out];exact HA2.out),HB3⟩
     case measure=>(simp[RowKit.intOf];omega)
  ·obtain rfl:n=L.length+1:=by omega
   have i1:¬((L.length:Int)+1)<=(L.length:Int):=by omega
   have i2:¬(((L.length+1:Nat):Int))<=(L.length:Int):=by omega
   have HA2:=hid (show ans=true by rw[HA.out,Nat.sub_self];rfl);go_wp2;go_ret;exact⟨by rw[HA2.out];rfl,HBr.out⟩
end
end Go.Proofs.YtkhmicndehlneaaGreatDoor
