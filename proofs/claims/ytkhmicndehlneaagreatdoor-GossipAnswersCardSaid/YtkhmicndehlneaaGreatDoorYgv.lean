/- Part 22 of the walks and plain laws that this claim uses, joined. Conditions: as each theorem states. -/
import Init.Data.Nat.Bitwise
import Init.Data.UInt.Lemmas
import Derived.Test.YtkhmicndehlneaaGreatDoorYgu
namespace Go.Proofs.YtkhmicndehlneaaGreatDoor
set_option maxRecDepth 100000
set_option maxHeartbeats 16000000
set_option linter.unusedVariables false
section
open Go.RowKit Go.Lib Go.Sort
attribute [local go_sem ↓] Go.wp_at_zero Go.wp_at_succ
def isSeen (N:List Plc) (V:List Gid) (p:Plc):Bool:=N.any λq=>V.any (λy=>y.eqb q.n) && rooted N q.n && within N q.n p.n
def seenP (L:List Plc) (V:List Gid):List Plc:=(rightP L).filter (isSeen (rightP L) V)
theorem seen15_any (L:List Plc) (A:Option Addr) (c:Nat) (V:List Gid) (vA:Option Addr) (vc:Nat) (S S2:Nat->Prop) (w00:World) (hl:L.length<=100000) (hv:V.length<=100000) (hnm:∀p∈L,p.name.size<=1000000) (hR:RowF w00 S A 8 plcL plc0 L) (hV:RowF w00 S2 vA 3 idL Gid.zero V):
  Calls Tryz.prog 171 #[.slice A L.length c,.slice vA V.length vc] w00 λe w'=>∃A' c',e= .returned (.slice A' (seenP L V).length c')∧w'.ownsRow w00.heap.size 161 8 (.slice A' (seenP L V).length c') (seenP L V).length ((seenP L V).flatMap plcL)∧Below w00.heap.size w00 w':=by
 obtain⟨i0,hi,hz0,hz1,hz2⟩:=info_parts info_plc;have HRI:=hid (right15_any L A c S w00 hl hnm hR);have HV0:=hid hV;have hnl:=rightP_len L;obtain⟨N,hN⟩:∃N,N=rightP L:=⟨_,rfl⟩;obtain⟨R,hRd⟩:∃R,R=seenP L V:=⟨_,rfl⟩;have HRR:=hid (show R=N.filter (isSeen N V) by rw[hRd,hN];rfl);rw[<-hRd];rw[<-hN] at HRI hnl;clear hR hV hN hRd;go_enter Tryz.func171,Tryz.ntmps171;go_upto_region 4 with(go_at_call 195;refine HRI.out.mono ?_;rintro e w ⟨A1,c1,rfl,hown1,hB1⟩;have HN:=hid (ownN_rowF (f:=plcL) (z:=plc0) (λ_=>rfl) rfl hown1);have HB1:=hid hB1;have HV:=hid (HV0.out.below hB1);clear hown1 hB1);go_loopw [5,6] (λo i wr=>∃(k:Nat) (A':Option Addr) (c' m:Nat) (M:List Plc),k<=N.length∧i= .int .i64 k∧o= .slice A' m c'∧m<=k∧Hid (m=M.length)∧Hid (M=(N.take k).filter (isSeen N V))∧Hid (wr.ownsRow w.heap.size 161 8 (.slice A' m c') m (M.flatMap plcL))∧Hid (Below w.heap.size w wr)) (λo i _=>N.length-(RowKit.intOf i).toNat)
 case atStart=>exact⟨0,none,0,0,[],Nat.zero_le _,rfl,rfl,Nat.le_refl _,hid rfl,hid rfl,hid (World.ownsRow_nil w w.heap.size 161 8),hid (Below.refl _ _)⟩
 case round=>
  obtain⟨k,A',c',m,M,hk,rfl,rfl,hmk,HML,HM,HO,HBr⟩:=hrel;by_cases hlt:k<N.length
  ·have i1:(0:Int)<=(k:Int):=by omega
   have i2:(k:Int)<(N.length:Int):=by omega
   obtain⟨rb,ro,hAe,-,hrb,hrange⟩:=HN.out.range (λ_=>rfl) hlt;have hst:((N.take (k+1)).filter (isSeen N V))=M++(if isSeen N V (N.getD k plc0)=true then [N.getD k plc0] else []):=by
    rw[takeD_succ hlt plc0,List.filter_append,HM.out];congr 1;generalize N.getD k plc0=p0;cases e:isSeen N V p0<;>simp[List.filter,e]
   obtain⟨p,hp⟩:∃p,p=N.getD k plc0:=⟨_,rfl⟩;rw[<-hp] at hst hrange;obtain⟨⟨⟨nt,nr⟩,ni⟩,⟨⟨pt,pr⟩,pi⟩,nm,dd⟩:=p;have HRW:=hid (λW (hB:Below w.heap.size w W)=>show W.rangeAt rb (ro+k*8) [.int .i64 nt,.int .i64 nr,.int .i64 ni,.int .i64 pt,.int .i64 pr,.int .i64 pi,.string nm,.bool dd] from rangeB hrange hrb hB);have HST:=hid hst;have hsz:=HBr.out.size;cases hAe;clear hrange hrb hst hp;generalize wr=w0 at *;go_upto_region 8 with fail;go_loopw [7,8] (λh i wr=>∃(j:Nat) (b:Bool),j<=N.length∧i= .int .i64 j∧h= .bool b∧Hid (b=(N.take j).any (λq:Plc=>V.any (λy=>y.eqb q.n) && rooted N q.n && within N q.n ⟨⟨nt,nr⟩,ni⟩))∧Hid (Below w0.heap.size w0 wr)) (λh i _=>N.length-(RowKit.intOf i).toNat)
   case atStart=>exact⟨0,false,Nat.zero_le _,rfl,rfl,hid rfl,hid (Below.refl _ _)⟩
   case round=>
    obtain⟨j,b,hj,rfl,rfl,HB,HBj⟩:=hrel;have HBw:=hid (HBr.out.trans (HBj.out.mono hsz));have hszw:=HBw.out.size;by_cases hjm:j<N.length
    ·have j1:(0:Int)<=(j:Int):=by omega
     have j2:(j:Int)<(N.length:Int):=by omega
     obtain⟨rb9,ro9,hA9,-,hrb9,hrange9⟩:=HN.out.range (λ_=>rfl) hjm;have htk:(N.take (j+1)).any (λq:Plc=>V.any (λy=>y.eqb q.n) && rooted N q.n && within N q.n ⟨⟨nt,nr⟩,ni⟩)=((N.take j).any (λq:Plc=>V.any (λy=>y.eqb q.n) && rooted N q.n && within N q.n ⟨⟨nt,nr⟩,ni⟩) || (λq:Plc=>V.any (λy=>y.eqb q.n) && rooted N q.n && within N q.n ⟨⟨nt,nr⟩,ni⟩) (N.getD j plc0)):=by rw[takeD_succ hjm plc0,List.any_append];simp
     obtain⟨y,hy⟩:∃y,y=N.getD j plc0:=⟨_,rfl⟩;rw[<-hy] at htk hrange9;obtain⟨⟨⟨t2,r2⟩,n2⟩,⟨⟨u2,v2⟩,i2⟩,m2,d2⟩:=y;have hr2:w.rangeAt rb9 (ro9+j*8) [.int .i64 t2,.int .i64 r2,.int .i64 n2,.int .i64 u2,.int .i64 v2,.int .i64 i2,.string m2,.bool d2]:=hrange9;obtain⟨b1,hb1⟩:∃b,b=V.any (λy=>y.eqb ⟨⟨t2,r2⟩,n2⟩):=⟨_,rfl⟩;obtain⟨b2,hb2⟩:∃b,b=rooted N ⟨⟨t2,r2⟩,n2⟩:=⟨_,rfl⟩;obtain⟨b3,hb3⟩:∃b,b=within N ⟨⟨t2,r2⟩,n2⟩ ⟨⟨nt,nr⟩,ni⟩:=⟨_,rfl⟩;have HTK:=hid (show(N.take (j+1)).any (λq:Plc=>V.any (λy=>y.eqb q.n) && rooted N q.n && within N q.n ⟨⟨nt,nr⟩,ni⟩)=(b || (b1 && b2 && b3)) by rw[htk,HB.out,hb1,hb2,hb3]);have hrw2:=rangeB hr2 hrb9 HBw.out;cases hA9;have HRG:=hid (HRW.out wr HBw.out);have y0:=cell_regrown (w:=wr) (a:=⟨rb,ro+j*8,none⟩) (v:= .int .i64 t2) (hrw2 0 _ rfl);have y1:=cell_regrown (w:=wr) (a:=⟨rb,ro+j*8+1,none⟩) (v:= .int .i64 r2) (hrw2 1 _ rfl);have y2:=cell_regrown (w:=wr) (a:=⟨rb,ro+j*8+2,none⟩) (v:= .int .i64 n2) (hrw2 2 _ rfl);have x0:=cell_regrown (w:=wr) (a:=⟨rb,ro+k*8,none⟩) (v:= .int .i64 nt) (HRG.out 0 _ rfl);have x1:=cell_regrown (w:=wr) (a:=⟨rb,ro+k*8+1,none⟩) (v:= .int .i64 nr) (HRG.out 1 _ rfl);have x2:=cell_regrown (w:=wr) (a:=⟨rb,ro+k*8+2,none⟩) (v:= .int .i64 ni) (HRG.out 2 _ rfl);have HHI:=hid (λW (hB:Below w.heap.size w W)=>show Calls Tryz.prog 173 #[.slice vA V.length vc,.agg #[t2,r2,n2]] W λe w'=>e= .returned (.bool b1)∧Below W.heap.size W w' from by rw[hb1];exact hasid_any V vA vc ⟨⟨t2,r2⟩,n2⟩ S2 W (by omega) (HV.out.below hB))
     have HRO:=hid (λW (hB:Below w.heap.size w W)=>show Calls Tryz.prog 196 #[.slice (some ⟨rb,ro,none⟩) N.length c1,.agg #[t2,r2,n2]] W λe w'=>e= .returned (.bool b2)∧Below W.heap.size W w' from by rw[hb2];exact rooted_any N _ c1 t2 r2 n2 _ W (by omega) (HN.out.below hB));have HWI:=hid (λW (hB:Below w.heap.size w W)=>show Calls Tryz.prog 168 #[.slice (some ⟨rb,ro,none⟩) N.length c1,.agg #[t2,r2,n2],.agg #[nt,nr,ni]] W λe w'=>e= .returned (.bool b3)∧Below W.heap.size W w' from by rw[hb3];exact within_any N _ c1 t2 r2 n2 nt nr ni _ W (by omega) (HN.out.below hB));have cA:=λd os=>Calls.regrown_of (HHI.out (grow (redrawn wr d) os) (HBw.out.trans ((below_regrown wr d os).mono hszw)));have cB:=λd os=>Calls.regrown_of (HRO.out (grow (redrawn wr d) os) (HBw.out.trans ((below_regrown wr d os).mono hszw)));have cC:=λd os=>Calls.regrown_of (HWI.out (grow (redrawn wr d) os) (HBw.out.trans ((below_regrown wr d os).mono hszw)));clear hr2 hrw2 hb1 hb2 hb3 hy htk hrange9 hrb9;cases b1 with
     |false=>
      go_upto_region 10 with fail;refine rqb ?_
      repeat(any_goals(first|go_big_quiet_step (with_reducible first|exact cA _ _|exact cB _ _|exact cC _ _)|quiet_step (with_reducible first|exact cA _ _|exact cB _ _|exact cC _ _)))
      refine qz λwq hBq=> ?_;have HBq:=hid (HBj.out.trans (hBq.mono HBj.out.size));go_wp2;go_roundw
      case rel=>exact⟨j+1,b,by omega,by go_num,rfl,hid (by rw[HTK.out];simp),HBq⟩
      case measure=>(simp[RowKit.intOf];omega)
     | true=>
      cases b2 with
      |false=>
       go_upto_region 10 with fail;refine rqb ?_
       repeat(any_goals(first|go_big_quiet_step (with_reducible first|exact cA _ _|exact cB _ _|exact cC _ _)|quiet_step (with_reducible first|exact cA _ _|exact cB _ _|exact cC _ _)))
       refine qz λwq hBq=> ?_;have HBq:=hid (HBj.out.trans (hBq.mono HBj.out.size));go_wp2;go_roundw
       case rel=>exact⟨j+1,b,by omega,by go_num,rfl,hid (by rw[HTK.out];simp),HBq⟩
       case measure=>(simp[RowKit.intOf];omega)
      | true=>
       cases b3 with
       |false=>
        go_upto_region 10 with fail;refine rqb ?_
        repeat(any_goals(first|go_big_quiet_step (with_reducible first|exact cA _ _|exact cB _ _|exact cC _ _)|quiet_step (with_reducible first|exact cA _ _|exact cB _ _|exact cC _ _)))
        refine qz λwq hBq=> ?_;have HBq:=hid (HBj.out.trans (hBq.mono HBj.out.size));go_wp2;go_roundw
        case rel=>exact⟨j+1,b,by omega,by go_num,rfl,hid (by rw[HTK.out];simp),HBq⟩
        case measure=>(simp[RowKit.intOf];omega)
       |true=>
        go_upto_region 10 with fail;refine rqb ?_
        repeat(any_goals(first|go_big_quiet_step (with_reducible first|exact cA _ _|exact cB _ _|exact cC _ _)|quiet_step (with_reducible first|exact cA _ _|exact cB _ _|exact cC _ _)))
        refine qz λwq hBq=> ?_;have HBq:=hid (HBj.out.trans (hBq.mono HBj.out.size));go_wp2;go_roundw
        case rel=>exact⟨j+1,true,by omega,by go_num,rfl,hid (by rw[HTK.out];simp),HBq⟩
        case measure=>(simp[RowKit.intOf];omega)
    ·obtain rfl:j=N.length:=by omega
     have j2:¬(N.length:Int)<(N.length:Int):=by omega
     have HANY:=hid (show isSeen N V ⟨⟨⟨nt,nr⟩,ni⟩,⟨⟨pt,pr⟩,pi⟩,nm,dd⟩=b by unfold isSeen;have h9:=HB.out;rw[List.take_length] at h9;exact h9.symm);have HOj:=hid (HO.out.kept (gby_below (r:=none) HBj.out) (Classical.em _));cases b with
     |false=>
      have HS9:=hid (show((N.take (k+1)).filter (isSeen N V))=M by rw[HST.out,HANY.out];simp);go_wp2;go_roundw
      case rel=>exact⟨k+1,A',c',m,M,by omega,by go_num,rfl,by omega,HML,hid HS9.out.symm,HOj,HBw⟩
      case measure=>(simp[RowKit.intOf];omega)
     | true=>
      have HS9:=hid (show((N.take (k+1)).filter (isSeen N V))=M++[⟨⟨⟨nt,nr⟩,ni⟩,⟨⟨pt,pr⟩,pi⟩,nm,dd⟩] by rw[HST.out,HANY.out];rfl);have HRX:=hid (HRW.out wr HBw.out)
      go_wp2_with (first
       |(refine wpList_load_mid rfl _ _ rfl rb (ro+k*8) rfl [.int .i64 nt,.int .i64 nr,.int .i64 ni,.int .i64 pt,.int .i64 pr,.int .i64 pi,.string nm,.bool dd] _ HRX.out Tryz.underlying161 rfl (by kernel_rfl) ?_)
       |(at_builtin;refine wpList_append_lies _ rfl _ _ 101 rfl w.heap.size 161 i0 (.agg #[(0:Int),(0:Int),(0:Int),(0:Int),(0:Int),(0:Int),.string ⟨#[]⟩,false]) 8 72 Tryz.underlying101 hi hz0 hz1 hz2 rfl (by decide) (.slice A' m c') m _ rfl (by exact HOj.out.alloc _) ⟨wr.heap.size,0,none⟩ 1 1 [.int .i64 nt,.int .i64 nr,.int .i64 ni,.int .i64 pt,.int .i64 pr,.int .i64 pi,.string nm,.bool dd] rfl rfl (λj y h=>cellsN wr [.int .i64 nt,.int .i64 nr,.int .i64 ni,.int .i64 pt,.int .i64 pr,.int .i64 pi,.string nm,.bool dd] 161 j y h) (oc_of (c:=#[.int .i64 nt,.int .i64 nr,.int .i64 ni,.int .i64 pt,.int .i64 pr,.int .i64 pi,.string nm,.bool dd]) rfl) (by decide) (by unfold maxLen;omega) (by omega) (by simp;omega) (wr.heap.size+1) (by simp) ?_;intro gq cap w5 hown hgrow ha hlt5;have HO5:=hid hown;have HB5:=hid ((HBw.out.alloc hszw _).grown hgrow (by simp;omega) (λb hb=>(HOj.out.lt b hb).1));clear hown hgrow ha hlt5))
      go_roundw
      case rel=>exact⟨k+1,some ⟨gq,0,none⟩,cap,m+1,M++[⟨⟨⟨nt,nr⟩,ni⟩,⟨⟨pt,pr⟩,pi⟩,nm,dd⟩],by omega,by go_num,rfl,by omega,hid (by rw[List.length_append,<-HML.out];rfl),hid HS9.out.symm,hid (by rw[List.flatMap_append];exact HO5.out),HB5⟩
      case measure=>(simp[RowKit.intOf];omega)
  ·obtain rfl:k=N.length:=by omega
   have i2:¬(N.length:Int)<(N.length:Int):=by omega
   have HM9:=hid (show M=R by rw[HRR.out];have h9:=HM.out;rw[List.take_length] at h9;exact h9);go_wp2;go_ret;refine⟨A',c',by rw[<-HM9.out,<-HML.out];rfl,?_,HB1.out.trans (HBr.out.mono HB1.out.size)⟩;rw[<-HM9.out,<-HML.out];exact own_base HO.out HB1.out.size
end
section
section
open Go.RowKit
theorem cells_new (W:World) (xs:List Value) (e:TypeId) (j:Nat) (u:Value) (h:xs[j]? =some u):(W.alloc (.cells xs.toArray e)).cell? ((⟨W.heap.size,0,none⟩:Addr).add j)=some u:=by
 rw[add_zero'];have:=World.cell?_alloc_mark W xs.toArray e (0,0) j;rw[this];simpa using h
theorem info_u8:(Tryz.prog.info? 5).map (λi=>(i.zero,i.size,i.bytes))=some (some (.int .u8 0),1,1):=by kernel_rfl
theorem one_cell (W:World) (u:Value) (e:TypeId) (j:Nat) (v:Value) (h:[u][j]? =some v):(W.alloc (.cells #[u] e)).cell? ((⟨W.heap.size,0,none⟩:Addr).add j)=some v:=cells_new W [u] e j v h
end
end
section
open Go.RowKit Go.Lib Go.Sort
attribute [local go_sem ↓] Go.wp_at_zero Go.wp_at_succ
def digs (n:Nat):List UInt8:=if n<10 then [UInt8.ofNat (48+n)] else digs (n / 10)++[UInt8.ofNat (48+n % 10)]
termination_by n
decreasing_by omega
theorem digs_low {n:Nat} (h:n<10):digs n=[UInt8.ofNat (48+n)]:=by rw[digs,if_pos h]
theorem digs_high {n:Nat} (h:¬n<10):digs n=digs (n / 10)++[UInt8.ofNat (48+n % 10)]:=by rw[digs,if_neg h]
theorem b8_of (n:Nat) (h:n<10):b8 (UInt8.ofNat (48+n))= .int .u8 (48+(n:Int)):=by
 unfold b8;rw[UInt8.toNat_ofNat_of_lt' (show 48+n<256 by omega)];rfl
theorem pow_step {n v d:Nat} (h:v*10 ^ d<=n):v / 10*10 ^ (d+1)<=n:=by
 have h2:v / 10*10<=v:=Nat.div_mul_le_self v 10;have h3:v / 10*10*10 ^ d<=v*10 ^ d:=Nat.mul_le_mul_right _ h2;rw[Nat.pow_succ,Nat.mul_comm (10 ^ d) 10,<-Nat.mul_assoc];omega
theorem pow_lt {n v d:Nat} (h:v*10 ^ d<=n) (hn:n<1000000000000000000) (hv:0<v):d<18:=by
 rcases Nat.lt_or_ge d 18 with h1|h1
 ·exact h1
 ·have h2:10 ^ 18<=10 ^ d:=Nat.pow_le_pow_right (by decide) h1;have h3:1*10 ^ d<=v*10 ^ d:=Nat.mul_le_mul_right _ hv;have h4:(10:Nat) ^ 18=1000000000000000000:=by decide
  omega
theorem digits_any (n:Nat) (w:World) (hn:n<1000000000000000000):
  Calls Tryz.prog 225 #[.int .i64 n] w λe w'=>∃T:ByteArray,e= .returned (.string T)∧T.data.toList=digs n∧T.size<=20∧Below w.heap.size w w':=by
 obtain⟨i0,hi,hz0,hz1,hz2⟩:=info_parts info_u8;have n0:¬(n:Int)<0:=by omega
 go_enter Tryz.func225,Tryz.ntmps225;go_upto_region 4 with fail;go_loopw [0,3] (λa s wr=>∃(v:Nat) (T:ByteArray),a= .int .i64 v∧s= .string T∧v<=n∧T.size<=18∧Hid (v*10 ^ T.size<=n)∧Hid (digs n=digs v++T.data.toList)∧Hid (Below w.heap.size w wr)) (λa s _=>(RowKit.intOf a).toNat)
 case atStart=>exact⟨n,⟨#[]⟩,rfl,rfl,Nat.le_refl _,Nat.zero_le _,hid (by show n*10 ^ 0<=n;omega),hid (by simp),hid (Below.refl _ _)⟩
 case round=>
  obtain⟨v,T,rfl,rfl,hv,hT,HP,HD,HB⟩:=hrel;have hszr:=HB.out.size;by_cases h9:v<10
  ·have n1:¬(v:Int)>9:=by omega
   have n2:¬(9:Int)<(v:Int):=by omega
   obtain⟨y,hy⟩:∃y,y=UInt8.ofNat (48+v):=⟨_,rfl⟩;have HX:=hid (show Value.int .u8 (48+(v:Int))=b8 y by rw[hy,b8_of v h9]);have HDL:=hid (show digs v=[y] by rw[hy];exact digs_low h9);clear hy;go_upto_region 11 with(at_builtin;refine wpList_append_own _ rfl _ _ 23 rfl w.heap.size 5 i0 (.int .u8 0) 1 1 Tryz.underlying23 hi hz0 hz1 hz2 rfl (by decide) (.slice none 0 0) 0 [] rfl (World.ownsRow_nil _ _ _ _) ⟨wr.heap.size,0,none⟩ 1 1 [.int .u8 (48+(v:Int))] rfl rfl (one_cell _ _ _) (λu hu=>by simp at hu;subst hu;rfl) (by unfold maxLen;omega) (by omega) (by simp;omega) ?_;intro v' w2 hown' hgrow _;have HO2:=hid hown';have HB2:=hid ((HB.out.alloc HB.out.size _).grown hgrow (by simp;omega) (λb hb=>by cases hb));clear hown' hgrow);have hcv:=conv_own (P:=Tryz.prog) w2 23 9 5 w.heap.size v' 1 [y] Tryz.underlying23 Tryz.underlying5 Tryz.underlying9 (by have h:=HO2.out;rw[HX.out] at h;exact h);have HL:Hid (((⟨#[y]⟩:ByteArray)++T).size<=maxLen):=hid (by simp only[ByteArray.size_append];rw[show(⟨#[y]⟩:ByteArray).size=1 from rfl];unfold maxLen;omega);go_wp2;go_ret;refine⟨_,rfl,?_,?_,HB2.out⟩
   ·rw[HD.out,HDL.out];simp
   ·simp only[ByteArray.size_append];rw[show(⟨#[y]⟩:ByteArray).size=1 from rfl];omega
  ·have n1:(v:Int)>9:=by omega
   have n2:(9:Int)<(v:Int):=by omega
   have HT2:=hid (pow_lt HP.out hn (by omega));have hx1:IntKind.i64.wrap (48+(v:Int) % 10)=48+(v:Int) % 10:=by rw[IntKind.wrap_i64];omega
   have hx2:IntKind.u8.wrap (48+(v:Int) % 10)=48+(v:Int) % 10:=by rw[IntKind.wrap_u8];omega
   obtain⟨y,hy⟩:∃y,y=UInt8.ofNat (48+v % 10):=⟨_,rfl⟩;have HX:=hid (show Value.int .u8 (48+(v:Int) % 10)=b8 y by rw[hy,b8_of (v % 10) (by omega)];rfl);have HDL:=hid (show digs v=digs (v / 10)++[y] by rw[hy];exact digs_high h9);clear hy;go_upto_region 7 with(at_builtin;refine wpList_append_own _ rfl _ _ 23 rfl w.heap.size 5 i0 (.int .u8 0) 1 1 Tryz.underlying23 hi hz0 hz1 hz2 rfl (by decide) (.slice none 0 0) 0 [] rfl (World.ownsRow_nil _ _ _ _) ⟨wr.heap.size,0,none⟩ 1 1 [.int .u8 (48+(v:Int) % 10)] rfl rfl (one_cell _ _ _) (λu hu=>by simp at hu;subst hu;rfl) (by unfold maxLen;omega) (by omega) (by simp;omega) ?_;intro v' w2 hown' hgrow _;have HO2:=hid hown';have HB2:=hid ((HB.out.alloc HB.out.size _).grown hgrow (by simp;omega) (λb hb=>by cases hb));clear hown' hgrow);have hcv:=conv_own (P:=Tryz.prog) w2 23 9 5 w.heap.size v' 1 [y] Tryz.underlying23 Tryz.underlying5 Tryz.underlying9 (by have h:=HO2.out;rw[HX.out] at h;exact h);have HL:Hid (((⟨#[y]⟩:ByteArray)++T).size<=maxLen):=hid (by simp only[ByteArray.size_append];rw[show(⟨#[y]⟩:ByteArray).size=1 from rfl];unfold maxLen;omega);have HS1:=hid (show((⟨#[y]⟩:ByteArray)++T).size=T.size+1 by simp only[ByteArray.size_append];rw[show(⟨#[y]⟩:ByteArray).size=1 from rfl];omega);go_wp2;go_roundw
   case rel=>exact⟨v / 10,_,by go_num,rfl,by omega,by rw[HS1.out];have:=HT2.out;omega,hid (by rw[HS1.out];exact pow_step HP.out),hid (by rw[HD.out,HDL.out];simp),HB2⟩
   case measure=>(simp[RowKit.intOf];omega)
end
section
open Go.RowKit Go.Lib Go.Sort
attribute [local go_sem ↓] Go.wp_at_zero Go.wp_at_succ
def digB (n:Nat):ByteArray:=⟨(digs n).toArray⟩
theorem digits_is (n:Nat) (w:World) (hn:n<1000000000000000000):Calls Tryz.prog 225 #[.int .i64 n] w λe w'=>e= .returned (.string (digB n))∧Below w.heap.size w w':=by
 refine(digits_any n w hn).mono ?_;rintro e w' ⟨T,rfl,hT,-,hB⟩;refine⟨?_,hB⟩;unfold digB;rw[<-hT,Array.toArray_toList]
theorem digB_size (n:Nat):n<1000000000000000000->(digB n).size<=18:=λh=>by
 show((digs n).toArray).size<=18;rw[List.size_toArray];have hlow:∀m,m<10->(digs m).length=1:=λm hm=>by rw[digs_low hm];rfl
 have hs:∀(d:Nat),∀m,m<10 ^ (d+1)->(digs m).length<=d+1:=by
  intro d;induction d with
  |zero=>intro m hm;rw[hlow m (by simpa using hm)];exact Nat.le_refl _
  | succ d ih=>
   intro m hm;by_cases h9:m<10
   ·rw[hlow m h9];omega
   ·rw[digs_high h9,List.length_append];have:=ih (m / 10) (by rw[Nat.div_lt_iff_lt_mul (by decide)];rw[Nat.pow_succ] at hm;exact hm);simp only[List.length_singleton];omega
 exact hs 17 n h
def txtB (x:Gid):ByteArray:=if x.right=true then digB x.s.t.toNat++⟨#[46]⟩++digB x.s.r.toNat++⟨#[46]⟩++digB x.i.toNat else ⟨#[]⟩
theorem text5_any (t r i:Int) (w00:World):
  Calls Tryz.prog 221 #[.agg #[.int .i64 t,.int .i64 r,.int .i64 i]] w00 fun e w'=>e= .returned (.string (txtB ⟨⟨t,r⟩,i⟩))∧Below w00.heap.size w00 w':=by
 obtain⟨v,hv⟩:∃v,v=Gid.right ⟨⟨t,r⟩,i⟩:=⟨_,rfl⟩
 obtain⟨T,hT⟩:∃T,T=txtB ⟨⟨t,r⟩,i⟩:=⟨_,rfl⟩
 rw[←hT]
 cases v with
 | false=>
  have HT:=hid (show T=⟨#[]⟩ by rw[hT];unfold txtB;rw[if_neg (by rw[←hv];decide)])
  have hb0:Below w00.heap.size w00 (w00.alloc (.cells #[.int .i64 t,.int .i64 r,.int .i64 i] 108)):=(Below.refl _ _).alloc (Nat.le_refl _) _
  have HB0:=hid hb0
  have HX:=hid (heap_alloc_new w00 (.cells #[.int .i64 t,.int .i64 r,.int .i64 i] 108))
  have HRI:=hid (show Calls Tryz.prog 192 #[.agg #[.int .i64 t,.int .i64 r,.int .i64 i]] (w00.alloc (.cells #[.int .i64 t,.int .i64 r,.int .i64 i] 108)) fun e w'=>e= .returned (.bool false)∧Below (w00.alloc (.cells #[.int .i64 t,.int .i64 r,.int .i64 i] 108)).heap.size (w00.alloc (.cells #[.int .i64 t,.int .i64 r,.int .i64 i] 108)) w' from by rw[hv];exact refrightid_any t r i _)
  clear hv hT hb0
  go_enter Tryz.func221,Tryz.ntmps221
  go_upto_region 1 with fail
  generalize hW:w00.alloc (.cells #[.int .i64 t,.int .i64 r,.int .i64 i] 108)=w at *
  clear hW
  go_wp2_with (first
   |(refine load_at rfl _ _ rfl w00.heap.size _ _ _ rfl HX.out Tryz.underlying108 rfl ?_ ?_;kernel_rfl)
   |(go_at_call 192;refine HRI.out.mono ?_;rintro e w2 ⟨rfl,hB2⟩;have HB2:=hid (HB0.out.trans (hB2.mono HB0.out.size));clear hB2))
  go_ret
  exact⟨by rw[HT.out];rfl,HB2.out⟩
 | true=>
  have hv2:=hv.symm
  simp only[Gid.right,Gst.right,Bool.and_eq_true,decide_eq_true_eq] at hv2
  obtain⟨⟨⟨⟨⟨ht1,ht2⟩,hr1⟩,hr2⟩,hi1⟩,hi2⟩:=hv2
  obtain⟨tn,rfl⟩:∃n:Nat,t=(n:Int):=⟨t.toNat,by omega⟩
  obtain⟨rn,rfl⟩:∃n:Nat,r=(n:Int):=⟨r.toNat,by omega⟩
  obtain⟨jn,rfl⟩:∃n:Nat,i=(n:Int):=⟨i.toNat,by omega⟩
  obtain⟨a,ha⟩:∃a,a=digB tn:=⟨_,rfl⟩
  obtain⟨b,hb⟩:∃a,a=digB rn:=⟨_,rfl⟩
  obtain⟨c,hc⟩:∃a,a=digB jn:=⟨_,rfl⟩
  have HT:=hid (show T=a++⟨#[46]⟩++b++⟨#[46]⟩++c by rw[hT];unfold txtB;rw[if_pos hv.symm,ha,hb,hc];rfl)
  have hb0:Below w00.heap.size w00 (w00.alloc (.cells #[.int .i64 (tn:Int),.int .i64 (rn:Int),.int .i64 (jn:Int)] 108)):=(Below.refl _ _).alloc (Nat.le_refl _) _
  have HB0:=hid hb0
  have HX:=hid (heap_alloc_new w00 (.cells #[.int .i64 (tn:Int),.int .i64 (rn:Int),.int .i64 (jn:Int)] 108))
  have sa:a.size≤18:=by rw[ha];exact digB_size tn (by omega)
  have sb:b.size≤18:=by rw[hb];exact digB_size rn (by omega)
  have sc:c.size≤18:=by rw[hc];exact digB_size jn (by omega)
  have HRI:=hid (show Calls Tryz.prog 192 #[.agg #[.int .i64 (tn:Int),.int .i64 (rn:Int),.int .i64 (jn:Int)]] (w00.alloc (.cells #[.int .i64 (tn:Int),.int .i64 (rn:Int),.int .i64 (jn:Int)] 108)) fun e w'=>e= .returned (.bool true)∧Below (w00.alloc (.cells #[.int .i64 (tn:Int),.int .i64 (rn:Int),.int .i64 (jn:Int)] 108)).heap.size (w00.alloc (.cells #[.int .i64 (tn:Int),.int .i64 (rn:Int),.int .i64 (jn:Int)] 108)) w' from by rw[hv];exact refrightid_any tn rn jn _)
  have HDA:=hid (fun W=>show Calls Tryz.prog 225 #[.int .i64 tn] W fun e w'=>e= .returned (.string a)∧Below W.heap.size W w' from by rw[ha];exact digits_is tn W (by omega))
  have HDB:=hid (fun W=>show Calls Tryz.prog 225 #[.int .i64 rn] W fun e w'=>e= .returned (.string b)∧Below W.heap.size W w' from by rw[hb];exact digits_is rn W (by omega))
  have HDC:=hid (fun W=>show Calls Tryz.prog 225 #[.int .i64 jn] W fun e w'=>e= .returned (.string c)∧Below W.heap.size W w' from by rw[hc];exact digits_is jn W (by omega))
  clear hv hT hb0 ha hb hc
  go_enter Tryz.func221,Tryz.ntmps221
  go_upto_region 1 with fail
  generalize hW:w00.alloc (.cells #[.int .i64 (tn:Int),.int .i64 (rn:Int),.int .i64 (jn:Int)] 108)=w at *
  clear hW
  go_upto_region 3 with(first
   |(refine load_at rfl _ _ rfl w00.heap.size _ _ _ rfl HX.out Tryz.underlying108 rfl ?_ ?_;kernel_rfl)
   |(go_at_call 192;refine HRI.out.mono ?_;rintro e w2 ⟨rfl,hB2⟩;have HB2:=hid (HB0.out.trans (hB2.mono HB0.out.size));have HX2:=hid ((hB2.block _ (lt_of_block HX.out)).trans HX.out);clear hB2))
  have y0:=cell_regrown (w:=w2) (a:=⟨w00.heap.size,0,none⟩) (v:= .int .i64 (tn:Int)) (crw HX2.out)
  have y1:=cell_regrown (w:=w2) (a:=⟨w00.heap.size,1,none⟩) (v:= .int .i64 (rn:Int)) (crw HX2.out)
  have y2:=cell_regrown (w:=w2) (a:=⟨w00.heap.size,2,none⟩) (v:= .int .i64 (jn:Int)) (crw HX2.out)
  have cA:=fun d os=>Calls.regrown_of (HDA.out (grow (redrawn w2 d) os))
  have cB:=fun d os=>Calls.regrown_of (HDB.out (grow (redrawn w2 d) os))
  have cC:=fun d os=>Calls.regrown_of (HDC.out (grow (redrawn w2 d) os))
  refine rqb ?_
  repeat(any_goals(first|go_big_quiet_step (with_reducible first|exact cA _ _|exact cB _ _|exact cC _ _)|quiet_step (with_reducible first|exact cA _ _|exact cB _ _|exact cC _ _)))
  refine qz fun wq hBq=> ?_
  go_wp2
  go_ret
  exact⟨by rw[HT.out];rfl,HB2.out.trans (hBq.mono HB2.out.size)⟩
theorem txtB_size (x:Gid):(txtB x).size<=60:=by
 unfold txtB;split
 ·rename_i h;simp only[Gid.right,Gst.right,Bool.and_eq_true,decide_eq_true_eq] at h;have h1:=digB_size x.s.t.toNat (by omega);have h2:=digB_size x.s.r.toNat (by omega);have h3:=digB_size x.i.toNat (by omega);simp only[ByteArray.size_append];rw[show(⟨#[46]⟩:ByteArray).size=1 from rfl];omega
 ·exact Nat.zero_le _
def clashN (s:ByteArray) (x:Gid):ByteArray:=if nameB s=true then (if (txtB x).size=0 then ⟨#[]⟩ else s++⟨#[126]⟩++txtB x) else ⟨#[]⟩
theorem clash_any (s:ByteArray) (t r i:Int) (w00:World) (hs:s.size≤1000000):
  Calls Tryz.prog 213 #[.string s,.agg #[.int .i64 t,.int .i64 r,.int .i64 i]] w00 fun e w'=>∃z,e= .returned (.tuple #[.string (clashN s ⟨⟨t,r⟩,i⟩),.int .i64 z])∧Below w00.heap.size w00 w':=by
 obtain⟨v,hv⟩:∃v,v=nameB s:=⟨_,rfl⟩
 obtain⟨X,hX⟩:∃T,T=txtB ⟨⟨t,r⟩,i⟩:=⟨_,rfl⟩
 obtain⟨T,hT⟩:∃T,T=clashN s ⟨⟨t,r⟩,i⟩:=⟨_,rfl⟩
 rw[←hT]
 have HT:=hid (show T=if v=true then (if X.size=0 then ⟨#[]⟩ else s++⟨#[126]⟩++X) else ⟨#[]⟩ by rw[hT,hv,hX];rfl)
 have hb0:Below w00.heap.size w00 (w00.alloc (.cells #[.int .i64 t,.int .i64 r,.int .i64 i] 108)):=(Below.refl _ _).alloc (Nat.le_refl _) _
 have HB0:=hid hb0
 have HX:=hid (heap_alloc_new w00 (.cells #[.int .i64 t,.int .i64 r,.int .i64 i] 108))
 have HNM:=hid (fun W=>show Calls Tryz.prog 159 #[.string s] W fun e w'=>e= .returned (.bool v)∧w'=W from by rw[hv];exact refname_any s W (by omega))
 have HTX:=hid (fun W=>show Calls Tryz.prog 221 #[.agg #[.int .i64 t,.int .i64 r,.int .i64 i]] W fun e w'=>e= .returned (.string X)∧Below W.heap.size W w' from by rw[hX];exact text5_any t r i W)
 have sX:X.size≤60:=by rw[hX];exact txtB_size _
 clear hv hX hT hb0
 go_enter Tryz.func213,Tryz.ntmps213
 go_upto_region 1 with fail
 generalize hW:w00.alloc (.cells #[.int .i64 t,.int .i64 r,.int .i64 i] 108)=w at *
 clear hW
 cases v with
 |false=>
  have HT2:=hid (show T=⟨#[]⟩ by rw[HT.out];rfl)
  go_wp2_with (go_at_call 159;refine(HNM.out w).mono ?_;rintro e w2 ⟨rfl,rfl⟩)
  go_ret2
  exact⟨_,by rw[HT2.out];rfl,HB0.out⟩
 | true=>
  by_cases h0:X.size=0
  ·have HT2:=hid (show T=⟨#[]⟩ by rw[HT.out,if_pos rfl,if_pos h0])
   have hq:X=⟨#[]⟩:=bs_nil.1 (by apply List.eq_nil_of_length_eq_zero;simpa using h0)
   subst hq
   go_wp2_with (first
    |(go_at_call 159;refine(HNM.out w).mono ?_;rintro e w2 ⟨rfl,rfl⟩)
    |(refine load_at rfl _ _ rfl w00.heap.size _ _ _ rfl HX.out Tryz.underlying108 rfl ?_ ?_;kernel_rfl)
    |(go_at_call 221;refine(HTX.out _).mono ?_;rintro e w3 ⟨rfl,hB3⟩;have HB3:=hid (HB0.out.trans (hB3.mono HB0.out.size));clear hB3))
   go_ret2
   exact⟨_,by rw[HT2.out];rfl,HB3.out⟩
  ·have HT2:=hid (show T=s++⟨#[126]⟩++X by rw[HT.out,if_pos rfl,if_neg h0])
   have hne:X.toList≠[]:=fun e=>h0 (by rw[ByteArray.toList_eq] at e;rw[show X=⟨#[]⟩ from bs_nil.1 e];rfl)
   have hq:(X.toList == [])=false:=by rw[beq_eq_false_iff_ne];exact hne
   go_wp2_with (first
    |(go_at_call 159;refine(HNM.out w).mono ?_;rintro e w2 ⟨rfl,rfl⟩)
    |(refine load_at rfl _ _ rfl w00.heap.size _ _ _ rfl HX.out Tryz.underlying108 rfl ?_ ?_;kernel_rfl)
    |(go_at_call 221;refine(HTX.out _).mono ?_;rintro e w3 ⟨rfl,hB3⟩;have HB3:=hid (HB0.out.trans (hB3.mono HB0.out.size));clear hB3))
   go_ret2
   exact⟨_,by rw[HT2.out];rfl,HB3.out⟩
def nameN (L:List Plc) (p:Plc):ByteArray:=if L.any (λq:Plc=>q.p.eqb p.p && decide (q.name=p.name) && Gid.lt q.n p.n)=true then clashN p.name p.n else p.name
theorem nameN_size (L:List Plc) (p:Plc):(nameN L p).size<=p.name.size+61:=by
 unfold nameN clashN;have h:=txtB_size p.n;split
 ·split
  ·split
   ·exact Nat.zero_le _
   ·simp only[ByteArray.size_append];rw[show(⟨#[126]⟩:ByteArray).size=1 from rfl];omega
  ·exact Nat.zero_le _
 ·omega
theorem name15_any (L:List Plc) (A:Option Addr) (c:Nat) (nt nr ni pt pr pi:Int) (nm:ByteArray) (dd:Bool) (S:Nat→Prop) (w00:World) (hl:L.length≤100000) (hnm:nm.size≤1000000) (hR:RowF w00 S A 8 plcL plc0 L):
  Calls Tryz.prog 197 #[.slice A L.length c,.agg #[.int .i64 nt,.int .i64 nr,.int .i64 ni,.int .i64 pt,.int .i64 pr,.int .i64 pi,.string nm,.bool dd]] w00 fun e w'=>e= .returned (.string (nameN L ⟨⟨⟨nt,nr⟩,ni⟩,⟨⟨pt,pr⟩,pi⟩,nm,dd⟩))∧Below w00.heap.size w00 w':=by
 obtain⟨T,hT⟩:∃T,T=nameN L ⟨⟨⟨nt,nr⟩,ni⟩,⟨⟨pt,pr⟩,pi⟩,nm,dd⟩:=⟨_,rfl⟩
 rw[←hT]
 obtain⟨Z,hZ⟩:∃Z,Z=clashN nm ⟨⟨nt,nr⟩,ni⟩:=⟨_,rfl⟩
 have HT:=hid (show T=if L.any (fun q:Plc=>q.p.eqb ⟨⟨pt,pr⟩,pi⟩ && decide (q.name=nm) && Gid.lt q.n ⟨⟨nt,nr⟩,ni⟩)=true then Z else nm by rw[hT,hZ];rfl)
 have hb0:Below w00.heap.size w00 (w00.alloc (.cells #[.int .i64 nt,.int .i64 nr,.int .i64 ni,.int .i64 pt,.int .i64 pr,.int .i64 pi,.string nm,.bool dd] 161)):=(Below.refl _ _).alloc (Nat.le_refl _) _
 have HB0:=hid hb0
 have HX0:=hid (heap_alloc_new w00 (.cells #[.int .i64 nt,.int .i64 nr,.int .i64 ni,.int .i64 pt,.int .i64 pr,.int .i64 pi,.string nm,.bool dd] 161))
 have HR:=hid (hR.below hb0)
 have HCL:=hid (fun W=>show Calls Tryz.prog 213 #[.string nm,.agg #[.int .i64 nt,.int .i64 nr,.int .i64 ni]] W fun e w'=>∃z,e= .returned (.tuple #[.string Z,.int .i64 z])∧Below W.heap.size W w' from by rw[hZ];exact clash_any nm nt nr ni W hnm)
 clear hR hT hZ hb0
 go_enter Tryz.func197,Tryz.ntmps197
 go_upto_region 2 with fail
 generalize hW:w00.alloc (.cells #[.int .i64 nt,.int .i64 nr,.int .i64 ni,.int .i64 pt,.int .i64 pr,.int .i64 pi,.string nm,.bool dd] 161)=w at *
 clear hW
 have hxs:=HB0.out.size
 generalize hxb:w00.heap.size=xb at *
 have HXB:=hid hxb
 clear hxb
 go_loopw [5] (fun i wr=>∃(k:Nat),k≤L.length∧i= .int .i64 k∧Hid ((L.take k).any (fun q:Plc=>q.p.eqb ⟨⟨pt,pr⟩,pi⟩ && decide (q.name=nm) && Gid.lt q.n ⟨⟨nt,nr⟩,ni⟩)=false)∧Hid (Below w.heap.size w wr)) (fun i _=>L.length-(RowKit.intOf i).toNat)
 case atStart=>exact⟨0,Nat.zero_le _,rfl,hid rfl,hid (Below.refl _ _)⟩
 case round=>
  obtain⟨k,hk,rfl,HA,HBr⟩:=hrel
  have HXr:=hid ((HBr.out.block _ (lt_of_block HX0.out)).trans HX0.out)
  have hxr:=Nat.le_trans hxs HBr.out.size
  have HBX:=hid (HB0.out.trans (HBr.out.mono hxs))
  by_cases hlt:k<L.length
  ·have i1:(0:Int)≤(k:Int):=by omega
   have i2:(k:Int)<(L.length:Int):=by omega
   obtain⟨rb,ro,rfl,-,hrb,hrange⟩:=HR.out.range (fun _=>rfl) hlt
   have htk:(L.take (k+1)).any (fun q:Plc=>q.p.eqb ⟨⟨pt,pr⟩,pi⟩ && decide (q.name=nm) && Gid.lt q.n ⟨⟨nt,nr⟩,ni⟩)=(fun q:Plc=>q.p.eqb ⟨⟨pt,pr⟩,pi⟩ && decide (q.name=nm) && Gid.lt q.n ⟨⟨nt,nr⟩,ni⟩) (L.getD k plc0):=by rw[takeD_succ hlt plc0,List.any_append,HA.out];simp
   have hmem:(fun q:Plc=>q.p.eqb ⟨⟨pt,pr⟩,pi⟩ && decide (q.name=nm) && Gid.lt q.n ⟨⟨nt,nr⟩,ni⟩) (L.getD k plc0)=true→L.any (fun q:Plc=>q.p.eqb ⟨⟨pt,pr⟩,pi⟩ && decide (q.name=nm) && Gid.lt q.n ⟨⟨nt,nr⟩,ni⟩)=true:=fun h=>List.any_eq_true.2 ⟨_,getD_memF hlt plc0,h⟩
   generalize L.getD k plc0=p at *
   obtain⟨⟨⟨t2,r2⟩,n2⟩,⟨⟨u2,v2⟩,i2⟩,m2,d2⟩:=p
   obtain⟨c1,hc1⟩:∃b,b=Gid.eqb ⟨⟨u2,v2⟩,i2⟩ ⟨⟨pt,pr⟩,pi⟩:=⟨_,rfl⟩
   obtain⟨c2,hc2⟩:∃b,b=decide (m2=nm):=⟨_,rfl⟩
   obtain⟨b2,hb2⟩:∃b,b=Gid.lt ⟨⟨t2,r2⟩,n2⟩ ⟨⟨nt,nr⟩,ni⟩:=⟨_,rfl⟩
   have HTK:=hid (show(L.take (k+1)).any (fun q:Plc=>q.p.eqb ⟨⟨pt,pr⟩,pi⟩ && decide (q.name=nm) && Gid.lt q.n ⟨⟨nt,nr⟩,ni⟩)=(c1 && c2 && b2) by rw[htk,hc1,hc2,hb2])
   have HME:=hid (show(c1 && c2 && b2)=true→L.any (fun q:Plc=>q.p.eqb ⟨⟨pt,pr⟩,pi⟩ && decide (q.name=nm) && Gid.lt q.n ⟨⟨nt,nr⟩,ni⟩)=true from fun h=>hmem (by rw[hc1,hc2,hb2] at h;exact h))
   have hrw:wr.rangeAt rb (ro+k*8) [.int .i64 t2,.int .i64 r2,.int .i64 n2,.int .i64 u2,.int .i64 v2,.int .i64 i2,.string m2,.bool d2]:=rangeB hrange hrb HBr.out
   have q1:=eq_id u2 v2 i2 pt pr pi c1 hc1.symm
   have q2:(m2.toList == nm.toList)=c2:=beq_str hc2.symm
   have y0:=cell_regrown (w:=wr) (a:=⟨rb,ro+k*8,none⟩) (v:= .int .i64 t2) (hrw 0 _ rfl)
   have y1:=cell_regrown (w:=wr) (a:=⟨rb,ro+k*8+1,none⟩) (v:= .int .i64 r2) (hrw 1 _ rfl)
   have y2:=cell_regrown (w:=wr) (a:=⟨rb,ro+k*8+2,none⟩) (v:= .int .i64 n2) (hrw 2 _ rfl)
   have y3:=cell_regrown (w:=wr) (a:=⟨rb,ro+k*8+3,none⟩) (v:= .int .i64 u2) (hrw 3 _ rfl)
   have y4:=cell_regrown (w:=wr) (a:=⟨rb,ro+k*8+4,none⟩) (v:= .int .i64 v2) (hrw 4 _ rfl)
   have y5:=cell_regrown (w:=wr) (a:=⟨rb,ro+k*8+5,none⟩) (v:= .int .i64 i2) (hrw 5 _ rfl)
   have y6:=cell_regrown (w:=wr) (a:=⟨rb,ro+k*8+6,none⟩) (v:= .string m2) (hrw 6 _ rfl)
   have y4':=cell_regrown (w:=wr) (a:=⟨rb,ro+k*8+3+1,none⟩) (v:= .int .i64 v2) (hrw 4 _ rfl)
   have y5':=cell_regrown (w:=wr) (a:=⟨rb,ro+k*8+3+2,none⟩) (v:= .int .i64 i2) (hrw 5 _ rfl)
   have x0:=cell_regrown (w:=wr) (a:=⟨xb,0,none⟩) (v:= .int .i64 nt) (crw HXr.out)
   have x1:=cell_regrown (w:=wr) (a:=⟨xb,1,none⟩) (v:= .int .i64 nr) (crw HXr.out)
   have x2:=cell_regrown (w:=wr) (a:=⟨xb,2,none⟩) (v:= .int .i64 ni) (crw HXr.out)
   have x3:=cell_regrown (w:=wr) (a:=⟨xb,3,none⟩) (v:= .int .i64 pt) (crw HXr.out)
   have x4:=cell_regrown (w:=wr) (a:=⟨xb,4,none⟩) (v:= .int .i64 pr) (crw HXr.out)
   have x5:=cell_regrown (w:=wr) (a:=⟨xb,5,none⟩) (v:= .int .i64 pi) (crw HXr.out)
   have x6:=cell_regrown (w:=wr) (a:=⟨xb,6,none⟩) (v:= .string nm) (crw HXr.out)
   have HBF:=fun W=>refcmpid_any t2 r2 n2 nt nr ni W
   obtain⟨zc,hzc⟩:∃z,z=rcmpD ⟨⟨t2,r2⟩,n2⟩ ⟨⟨nt,nr⟩,ni⟩:=⟨_,rfl⟩
   rw[←hzc] at HBF
   have hz2:decide (0≤zc)= !b2:=by rw[hzc,rcmpD_ge,hb2]
   have hz3:decide (zc<0)=b2:=by cases b2<;>simp at hz2 ⊢ <;>omega
   clear hzc hz2
   have cA:=fun d os=>Calls.regrown_of (HBF (grow (redrawn wr d) os))
   clear hrange hrb hrw hc1 hc2 hb2 htk hmem
   cases c1 with
   |false=>
    go_upto_region 4 with fail
    refine rqb ?_
    repeat(any_goals(first|go_big_quiet_step (with_reducible exact cA _ _)|quiet_step (with_reducible exact cA _ _)))
    refine qz fun wq hBq=> ?_
    have HBq:=hid (HBr.out.trans (hBq.mono HBr.out.size))
    go_wp2
    go_roundw
    case rel=>exact⟨k+1,by omega,by go_num,hid HTK.out,HBq⟩
    case measure=>(simp[RowKit.intOf];omega)
   | true=>
    cases c2 with
    |false=>
     go_upto_region 4 with fail
     refine rqb ?_
     repeat(any_goals(first|go_big_quiet_step (with_reducible exact cA _ _)|quiet_step (with_reducible exact cA _ _)))
     refine qz fun wq hBq=> ?_
     have HBq:=hid (HBr.out.trans (hBq.mono HBr.out.size))
     go_wp2
     go_roundw
     case rel=>exact⟨k+1,by omega,by go_num,hid HTK.out,HBq⟩
     case measure=>(simp[RowKit.intOf];omega)
    | true=>
     cases b2 with
     |false=>
      go_upto_region 4 with fail
      refine rqb ?_
      repeat(any_goals(first|go_big_quiet_step (with_reducible exact cA _ _)|quiet_step (with_reducible exact cA _ _)))
      refine qz fun wq hBq=> ?_
      have HBq:=hid (HBr.out.trans (hBq.mono HBr.out.size))
      go_wp2
      go_roundw
      case rel=>exact⟨k+1,by omega,by go_num,hid HTK.out,HBq⟩
      case measure=>(simp[RowKit.intOf];omega)
     |true=>
      have HT2:=hid (show T=Z by rw[HT.out,if_pos (HME.out rfl)])
      go_upto_region 4 with fail
      refine rqb ?_
      repeat(any_goals(first|go_big_quiet_step (with_reducible exact cA _ _)|quiet_step (with_reducible exact cA _ _)))
      refine qz fun wq hBq=> ?_
      have HBq:=hid (HBr.out.trans (hBq.mono HBr.out.size))
      have HXq:=hid ((hBq.block _ (lt_of_block HXr.out)).trans HXr.out)
      have HBQ:=hid (HBX.out.trans (hBq.mono hxr))
      have hxq:=Nat.le_trans hxr hBq.size
      have z0:wq.cell? ⟨xb,0,none⟩=some (.int .i64 nt):=cell_of_row _ _ _ _ _ _ HXq.out;have z1:wq.cell? ⟨xb,1,none⟩=some (.int .i64 nr):=cell_of_row _ _ _ _ _ _ HXq.out;have z2:wq.cell? ⟨xb,2,none⟩=some (.int .i64 ni):=cell_of_row _ _ _ _ _ _ HXq.out;have z6:wq.cell? ⟨xb,6,none⟩=some (.string nm):=cell_of_row _ _ _ _ _ _ HXq.out
      clear x0 y0 x1 y1 x2 y2 x3 y3 x4 y4 x5 y5 x6 y6 y4' y5' cA
      go_wp2_with (go_at_call 213;refine(HCL.out _).mono ?_;rintro e w3 ⟨zz,rfl,hB3⟩;have HB3:=hid (HBQ.out.trans (hB3.mono hxq));clear hB3)
      go_ret
      exact⟨by rw[HT2.out];rfl,by rw[HXB.out];exact HB3.out⟩
  ·obtain rfl:k=L.length:=by omega
   have i2:¬(L.length:Int)<(L.length:Int):=by omega
   have HT2:=hid (show T=nm by rw[HT.out,if_neg (by have h9:=HA.out;rw[List.take_length] at h9;rw[h9];decide)])
   have z6:wr.cell? ⟨xb,6,none⟩=some (.string nm):=cell_of_row _ _ _ _ _ _ HXr.out
   go_wp2
   go_ret
   exact⟨by rw[HT2.out];rfl,by rw[HXB.out];exact HBX.out⟩
def climbs (L:List Plc):Nat->Plc->Bool
 |0,p=>p.p.eqb .zero
 |f+1,p=>if p.p.eqb .zero=true then true else match findP L p.p with
  |none=>false
  |some k=>climbs L f (L.getD k plc0)
def pathF (L:List Plc):Nat->Plc->ByteArray->ByteArray
 |0,_,s=>s
 |f+1,p,s=>if p.p.eqb .zero=true then s else match findP L p.p with
  |none=>s
  |some k=>pathF L f (L.getD k plc0) ((⟨#[47]⟩:ByteArray)++nameN L (L.getD k plc0)++s)
def pathN (L:List Plc) (f:Nat) (p:Plc):ByteArray:=pathF L f p ((⟨#[47]⟩:ByteArray)++nameN L p)
theorem pathF_zero (L:List Plc) (f:Nat) (p:Plc) (s:ByteArray) (h:p.p.eqb .zero=true):pathF L f p s=s:=by
 cases f with
 |zero=>rfl
 |succ f=>rw[pathF,if_pos h]
theorem path15_any (L:List Plc) (A:Option Addr) (c:Nat) (f0:Nat) (nt nr ni pt pr pi:Int) (nm:ByteArray) (dd:Bool) (S:Nat->Prop) (w00:World) (hl:L.length<=100000) (hnms:∀p∈L,p.name.size<=1000) (hnm:nm.size<=1000) (hf0:f0<=10000) (hcl:climbs L f0 (⟨⟨⟨nt,nr⟩,ni⟩,⟨⟨pt,pr⟩,pi⟩,nm,dd⟩:Plc)=true) (hR:RowF w00 S A 8 plcL plc0 L):
  Calls Tryz.prog 172 #[.slice A L.length c,.agg #[nt,nr,ni,pt,pr,pi,nm,dd]] w00 λe w'=>e= .returned (.string (pathN L f0 (⟨⟨⟨nt,nr⟩,ni⟩,⟨⟨pt,pr⟩,pi⟩,nm,dd⟩:Plc)))∧Below w00.heap.size w00 w':=by
 obtain⟨Z,hZ⟩:∃T,T=pathN L f0 (⟨⟨⟨nt,nr⟩,ni⟩,⟨⟨pt,pr⟩,pi⟩,nm,dd⟩:Plc):=⟨_,rfl⟩;rw[<-hZ];obtain⟨N0,hN0⟩:∃T,T=nameN L (⟨⟨⟨nt,nr⟩,ni⟩,⟨⟨pt,pr⟩,pi⟩,nm,dd⟩:Plc):=⟨_,rfl⟩;have HZ:=hid (show Z=pathF L f0 (⟨⟨⟨nt,nr⟩,ni⟩,⟨⟨pt,pr⟩,pi⟩,nm,dd⟩:Plc) ((⟨#[47]⟩:ByteArray)++N0) by rw[hZ,hN0];rfl);have hs0:N0.size<=1061:=by rw[hN0];have h:=nameN_size L (⟨⟨⟨nt,nr⟩,ni⟩,⟨⟨pt,pr⟩,pi⟩,nm,dd⟩:Plc);have h2:(⟨⟨⟨nt,nr⟩,ni⟩,⟨⟨pt,pr⟩,pi⟩,nm,dd⟩:Plc).name.size<=1000:=hnm;omega
 have hb0:Below w00.heap.size w00 (w00.alloc (.cells #[nt,nr,ni,pt,pr,pi,nm,dd] 161)):=(Below.refl _ _).alloc (Nat.le_refl _) _;have HB0:=hid hb0;have HX0:=hid (heap_alloc_new w00 (.cells #[nt,nr,ni,pt,pr,pi,nm,dd] 161));have HR:=hid hR;have HCL:=hid hcl;have HNS:=hid hnms;have HN1:=hid (show Calls Tryz.prog 197 #[.slice A L.length c,.agg #[nt,nr,ni,pt,pr,pi,nm,dd]] (w00.alloc (.cells #[nt,nr,ni,pt,pr,pi,nm,dd] 161)) λe w'=>e= .returned (.string N0)∧Below (w00.alloc (.cells #[nt,nr,ni,pt,pr,pi,nm,dd] 161)).heap.size (w00.alloc (.cells #[nt,nr,ni,pt,pr,pi,nm,dd] 161)) w' from by rw[hN0];exact name15_any L A c nt nr ni pt pr pi nm dd S _ hl (by omega) (hR.below hb0));clear hR hZ hN0 hb0 hcl hnms;go_enter Tryz.func172,Tryz.ntmps172;go_upto_region 1 with fail;generalize hW:w00.alloc (.cells #[nt,nr,ni,pt,pr,pi,nm,dd] 161)=w at *;clear hW;have hxs:=HB0.out.size;generalize hxb:w00.heap.size=xb at *;have HXB:=hid hxb;clear hxb
 go_upto_region 2 with(first
  |(refine load_at rfl _ _ rfl xb _ _ _ rfl HX0.out Tryz.underlying161 rfl ?_ ?_;kernel_rfl)
  |(go_at_call 197;refine HN1.out.mono ?_;rintro e w1 ⟨rfl,hB1⟩;have HX1:=hid ((hB1.block _ (lt_of_block HX0.out)).trans HX0.out);have HB1:=hid (HB0.out.trans (hB1.mono hxs));have hx1:=Nat.le_trans hxs hB1.size;clear hB1))
 have HSS:=hid (show((⟨#[47]⟩:ByteArray)++N0).size<=1100 by simp only[ByteArray.size_append];rw[show(⟨#[47]⟩:ByteArray).size=1 from rfl];omega);obtain⟨T0,hT0⟩:∃T,T=(⟨#[47]⟩:ByteArray)++N0:=⟨_,rfl⟩;rw[<-hT0] at HSS HZ;have hT0b:T0.size<=1100:=HSS.out;have HT0:=hid hT0;simp only[<-hT0];clear hT0;go_loopw [5] (λs wr=>∃(f:Nat) (p:Plc) (T:ByteArray),s= .string T∧f<=10000∧T.size+f*1100<=20000000∧p.name.size<=1000∧Hid (climbs L f p=true)∧Hid (wr.heap[xb]? =some (.cells (plcL p).toArray 161 (0,0)))∧Hid (Z=pathF L f p T)∧Hid (Below xb w00 wr)∧xb<=wr.heap.size) (λs _=>match s with| .string T=>20000000-T.size|_=>0)
 case atStart=>exact⟨f0,(⟨⟨⟨nt,nr⟩,ni⟩,⟨⟨pt,pr⟩,pi⟩,nm,dd⟩:Plc),T0,rfl,hf0,by omega,hnm,HCL,HX1,HZ,HB1,hx1⟩
 case round=>
  obtain⟨f,p,T,rfl,hf,hT,hpn,HC,HX,HA,HBr,hxr⟩:=hrel;obtain⟨⟨⟨nt,nr⟩,ni⟩,⟨⟨pt,pr⟩,pi⟩,nm,dd⟩:=p;have HX:Hid (wr.heap[xb]? =some (.cells #[nt,nr,ni,pt,pr,pi,nm,dd] 161 (0,0))):=HX;obtain⟨b0,hb0⟩:∃b,b=Gid.eqb ⟨⟨pt,pr⟩,pi⟩ .zero:=⟨_,rfl⟩;have q0:=ne_id pt pr pi 0 0 0 b0 hb0.symm;have HPR:=hid (show wr.rangeAt xb 3 [pt,pr,pi] from range_mid (pre:=[nt,nr,ni]) (mid:=[pt,pr,pi]) (post:=[nm,dd]) (range_of_block HX.out));cases b0 with
  |true=>
   have HA2:=hid (show Z=T by rw[HA.out];exact pathF_zero L f _ T hb0.symm);clear hb0;go_wp2_with (refine wpList_load_mid rfl _ _ rfl xb 3 rfl [pt,pr,pi] _ HPR.out Tryz.underlying108 rfl (by kernel_rfl) ?_);go_ret;exact⟨by rw[HA2.out];rfl,by rw[HXB.out];exact HBr.out⟩
  | false=>
   cases f with
   |zero=>exact absurd (show Gid.eqb ⟨⟨pt,pr⟩,pi⟩ .zero=true from HC.out) (by rw[<-hb0];decide)
   | succ f=>
    have hc:=HC.out;rw[climbs,if_neg (show ¬Gid.eqb ⟨⟨pt,pr⟩,pi⟩ .zero=true by rw[<-hb0];decide)] at hc;have ha:=HA.out;rw[pathF,if_neg (show ¬Gid.eqb ⟨⟨pt,pr⟩,pi⟩ .zero=true by rw[<-hb0];decide)] at ha;have hfd9:findP L (⟨⟨⟨nt,nr⟩,ni⟩,⟨⟨pt,pr⟩,pi⟩,nm,dd⟩:Plc).p=findP L ⟨⟨pt,pr⟩,pi⟩:=rfl;rw[hfd9] at hc ha;have hrow:RowF wr S A 8 plcL plc0 L:=HR.out.below (by rw[HXB.out];exact HBr.out);have HFD:=hid (show Calls Tryz.prog 169 #[.slice A L.length c,.agg #[pt,pr,pi]] wr λe w'=>e= .returned (.int .i64 (ixI (findP L ⟨⟨pt,pr⟩,pi⟩)))∧Below wr.heap.size wr w' from findplc_any L A c ⟨⟨pt,pr⟩,pi⟩ S wr (by omega) hrow);cases hfd:findP L ⟨⟨pt,pr⟩,pi⟩ with
    |none=>rw[hfd] at hc;exact absurd (show false=true from hc) (by decide)
    | some k=>
     obtain⟨hk,-⟩:=findP_lt hfd;rw[hfd] at hc ha HFD;have hc:climbs L f (L.getD k plc0)=true:=hc;have ha:Z=pathF L f (L.getD k plc0) ((⟨#[47]⟩:ByteArray)++nameN L (L.getD k plc0)++T):=ha;obtain⟨rb,ro,hAe,-,hrb,hrange⟩:=hrow.range (λ_=>rfl) hk;have hns:=HNS.out _ (getD_memF hk plc0);have i3:(0:Int)<=(k:Int):=by omega
     have i4:(k:Int)<(L.length:Int):=by omega
     obtain⟨y,hy⟩:∃y,y=L.getD k plc0:=⟨_,rfl⟩;rw[<-hy] at hc ha hrange hns;obtain⟨⟨⟨t2,r2⟩,n2⟩,⟨⟨u2,v2⟩,i2⟩,m2,d2⟩:=y;have hm2:m2.size<=1000:=hns;obtain⟨M,hM⟩:∃M,M=nameN L (⟨⟨⟨t2,r2⟩,n2⟩,⟨⟨u2,v2⟩,i2⟩,m2,d2⟩:Plc):=⟨_,rfl⟩;have hms:M.size<=1061:=by rw[hM];have h:=nameN_size L (⟨⟨⟨t2,r2⟩,n2⟩,⟨⟨u2,v2⟩,i2⟩,m2,d2⟩:Plc);have h2:(⟨⟨⟨t2,r2⟩,n2⟩,⟨⟨u2,v2⟩,i2⟩,m2,d2⟩:Plc).name.size<=1000:=hm2;omega
     rw[<-hM] at ha;have HNM:=hid (λW (hB:Below xb w00 W)=>show Calls Tryz.prog 197 #[.slice A L.length c,.agg #[t2,r2,n2,u2,v2,i2,m2,d2]] W λe w'=>e= .returned (.string M)∧Below W.heap.size W w' from by rw[hM];exact name15_any L A c t2 r2 n2 u2 v2 i2 m2 d2 S W hl (by omega) (HR.out.below (by rw[HXB.out];exact hB)));have HRW:=hid (λW (hB:Below wr.heap.size wr W)=>show W.rangeAt rb (ro+k*8) [t2,r2,n2,u2,v2,i2,m2,d2] from rangeB hrange hrb hB);have HC2:=hid hc;have HPC:=hid (show(#[t2,r2,n2,u2,v2,i2,m2,d2]:Array Value).toList.all (·.oneCell')=true from rfl);have HA3:=hid ha;have HMS:=hid (show((⟨#[47]⟩:ByteArray)++M++T).size=1+M.size+T.size by simp only[ByteArray.size_append];rfl);subst hAe;clear hb0 hc ha hfd9 hrow hfd hrange hrb hns hy hM HA HC;go_upto_region 3 with(refine wpList_load_mid rfl _ _ rfl xb 3 rfl [pt,pr,pi] _ HPR.out Tryz.underlying108 rfl (by kernel_rfl) ?_)
     go_upto_region 4 with(first
      |(refine wpList_load_mid rfl _ _ rfl xb 3 rfl [pt,pr,pi] _ HPR.out Tryz.underlying108 rfl (by kernel_rfl) ?_)
      |(go_at_call 169;refine HFD.out.mono ?_;rintro e w2 ⟨rfl,hB2⟩;have HX2:=hid ((hB2.block _ (lt_of_block HX.out)).trans HX.out);have HB2:=hid (HBr.out.trans (hB2.mono hxr));have hx2:=Nat.le_trans hxr hB2.size;have HRX:=hid (HRW.out w2 hB2);obtain⟨V,hV⟩:∃V,V=w2.setRow xb #[t2,r2,n2,u2,v2,i2,m2,d2]:=⟨_,rfl⟩;have HV:=hid hV;have HX3:=hid (show V.heap[xb]? =some (.cells #[t2,r2,n2,u2,v2,i2,m2,d2] 161 (0,0)) by rw[hV];exact heap_setRow_same _ HX2.out);have HB3:=hid (show Below xb w00 V by rw[hV];exact Below.setRow' HB2.out (Nat.le_refl _) _);have hx3:xb<=V.heap.size:=(by rw[hV];simpa[World.setRow] using hx2);clear hB2 hV;dsimp only[ixI])
      |(refine wpList_load_mid rfl _ _ rfl rb (ro+k*8) rfl [t2,r2,n2,u2,v2,i2,m2,d2] _ HRX.out Tryz.underlying161 rfl (by kernel_rfl) ?_)
      |(refine store_at rfl _ _ _ rfl xb 161 #[nt,nr,ni,pt,pr,pi,nm,dd] #[t2,r2,n2,u2,v2,i2,m2,d2] rfl rfl HX2.out (by kernel_rfl) rfl HPC.out ?_;rw[<-HV.out]))
     go_wp2_with (first
      |(refine load_at rfl _ _ rfl xb _ _ _ rfl HX3.out Tryz.underlying161 rfl ?_ ?_;kernel_rfl)
      |(go_at_call 197;refine(HNM.out V HB3.out).mono ?_;rintro e w4 ⟨rfl,hB4⟩;have HX4:=hid ((hB4.block _ (lt_of_block HX3.out)).trans HX3.out);have HB4:=hid (HB3.out.trans (hB4.mono hx3));have hx4:=Nat.le_trans hx3 hB4.size;clear hB4))
     go_roundw
     case rel=>exact⟨f,(⟨⟨⟨t2,r2⟩,n2⟩,⟨⟨u2,v2⟩,i2⟩,m2,d2⟩:Plc),_,rfl,by omega,by rw[HMS.out];omega,hm2,HC2,HX4,HA3,HB4,hx4⟩
     case measure=>show 20000000-((⟨#[47]⟩:ByteArray)++M++T).size<20000000-T.size;rw[HMS.out];omega
def ltS (a b:ByteArray):Bool:=Op.bytesLess a.toList b.toList
def stepI (N:List Plc) (V:List Gid) (f0:Nat) (out:List Itm) (p:Plc):List Itm:=insB (λy:Itm=>ltS (pathN N f0 p) y.path) itm0 out ⟨p.n,pathN N f0 p,p.dir,!(V.any (λy=>y.eqb p.n))⟩
def itemsL (f0:Nat) (L:List Plc) (V:List Gid):List Itm:=(seenP L V).foldl (stepI (seenP L V) V f0) []
theorem seenP_len (L:List Plc) (V:List Gid):(seenP L V).length<=L.length:=Nat.le_trans (List.length_filter_le _ _) (rightP_len L)
theorem items15_any (L:List Plc) (A:Option Addr) (c:Nat) (V:List Gid) (vA:Option Addr) (vc f0:Nat) (S S2:Nat->Prop) (w00:World) (hl:L.length<=100000) (hv:V.length<=100000) (hnm:∀p∈L,p.name.size<=1000) (hsn:∀p∈seenP L V,p.name.size<=1000∧climbs (seenP L V) f0 p=true) (hf0:f0<=10000) (hR:RowF w00 S A 8 plcL plc0 L) (hV:RowF w00 S2 vA 3 idL Gid.zero V):
  Calls Tryz.prog 112 #[.slice A L.length c,.slice vA V.length vc] w00 λe w'=>∃A' c',e= .returned (.slice A' (itemsL f0 L V).length c')∧w'.ownsRow w00.heap.size 110 6 (.slice A' (itemsL f0 L V).length c') (itemsL f0 L V).length ((itemsL f0 L V).flatMap itmL)∧Below w00.heap.size w00 w':=by
 obtain⟨i0,hi,hz0,hz1,hz2⟩:=info_parts info_itm;have HSE:=hid (seen15_any L A c V vA vc S S2 w00 hl hv (λp hp=>Nat.le_trans (hnm p hp) (by decide)) hR hV);have HV0:=hid hV;have hnl:=seenP_len L V;obtain⟨N,hN⟩:∃N,N=seenP L V:=⟨_,rfl⟩;obtain⟨R,hRd⟩:∃R,R=itemsL f0 L V:=⟨_,rfl⟩;have HRR:=hid (show R=N.foldl (stepI N V f0) [] by rw[hRd,hN];rfl);rw[<-hRd];rw[<-hN] at HSE hnl hsn;have HSN:=hid hsn;clear hR hV hN hRd hnm hsn;go_enter Tryz.func112,Tryz.ntmps112;go_upto_region 4 with(go_at_call 171;refine HSE.out.mono ?_;rintro e w ⟨A1,c1,rfl,hown1,hB1⟩;have HN:=hid (ownN_rowF (f:=plcL) (z:=plc0) (λ_=>rfl) rfl hown1);have HB1:=hid hB1;have HV:=hid (HV0.out.below hB1);clear hown1 hB1);go_loopw [6,7] (λo i wr=>∃(k:Nat) (A':Option Addr) (c' m:Nat) (M:List Itm),k<=N.length∧i= .int .i64 k∧o= .slice A' m c'∧m<=k∧Hid (m=M.length)∧Hid (M=(N.take k).foldl (stepI N V f0) [])∧Hid (wr.ownsRow w.heap.size 110 6 (.slice A' m c') m (M.flatMap itmL))∧Hid (Below w.heap.size w wr)) (λo i _=>N.length-(RowKit.intOf i).toNat)
 case atStart=>exact⟨0,none,0,0,[],Nat.zero_le _,rfl,rfl,Nat.le_refl _,hid rfl,hid rfl,hid (World.ownsRow_nil w w.heap.size 110 6),hid (Below.refl _ _)⟩
 case round=>
  obtain⟨k,A',c',m,M,hk,rfl,rfl,hmk,HML,HM,HO,HBr⟩:=hrel;by_cases hlt:k<N.length
  ·have i1:(0:Int)<=(k:Int):=by omega
   have i2:(k:Int)<(N.length:Int):=by omega
   obtain⟨rb,ro,hAe,-,hrb,hrange⟩:=HN.out.range (λ_=>rfl) hlt;have hst:((N.take (k+1)).foldl (stepI N V f0) [])=stepI N V f0 M (N.getD k plc0):=by rw[HM.out];exact foldl_take _ _ hlt plc0
   have hsp:=HSN.out _ (getD_memF hlt plc0);obtain⟨p,hp⟩:∃p,p=N.getD k plc0:=⟨_,rfl⟩;rw[<-hp] at hst hrange hsp;obtain⟨⟨⟨nt,nr⟩,ni⟩,⟨⟨pt,pr⟩,pi⟩,nm,dd⟩:=p;obtain⟨hs1,hs2⟩:=hsp;have hsz:=HBr.out.size;have hm63:m<=100000:=by omega
   obtain⟨Z,hZ⟩:∃Z,Z=pathN N f0 (⟨⟨⟨nt,nr⟩,ni⟩,⟨⟨pt,pr⟩,pi⟩,nm,dd⟩:Plc):=⟨_,rfl⟩;obtain⟨bh,hbh⟩:∃b,b=V.any (λy=>y.eqb ⟨⟨nt,nr⟩,ni⟩):=⟨_,rfl⟩;have HS9:=hid (show((N.take (k+1)).foldl (stepI N V f0) [])=insB (λy:Itm=>ltS Z y.path) itm0 M ⟨⟨⟨nt,nr⟩,ni⟩,Z,dd,!bh⟩ by rw[hst,hZ,hbh];rfl);have HPX:=hid (show wr.rangeAt rb (ro+k*8) [nt,nr,ni,pt,pr,pi,nm,dd] from rangeB hrange hrb HBr.out);have HPA:=hid (λW (hB:Below w.heap.size w W)=>show Calls Tryz.prog 172 #[.slice A1 N.length c1,.agg #[nt,nr,ni,pt,pr,pi,nm,dd]] W λe w'=>e= .returned (.string Z)∧Below W.heap.size W w' from by rw[hZ];exact path15_any N A1 c1 f0 nt nr ni pt pr pi nm dd _ W (by omega) (λp hp=>(HSN.out p hp).1) hs1 hf0 hs2 (HN.out.below hB));have HHA:=hid (λW (hB:Below w.heap.size w W)=>show Calls Tryz.prog 173 #[.slice vA V.length vc,.agg #[nt,nr,ni]] W λe w'=>e= .returned (.bool bh)∧Below W.heap.size W w' from by rw[hbh];exact hasid_any V vA vc ⟨⟨nt,nr⟩,ni⟩ S2 W (by omega) (HV.out.below hB));have HAE:=hid hAe;have hb1:=HAE.out;clear hst hrange hrb hp hs1 hs2 hZ hbh hb1;go_upto_region 6 with fail;rw[hAe]
   go_upto_region 7 with(first
    |(refine wpList_load_mid rfl _ _ rfl rb (ro+k*8) rfl [nt,nr,ni,pt,pr,pi,nm,dd] _ HPX.out Tryz.underlying161 rfl (by kernel_rfl) ?_)
    |(refine store_last rfl _ _ _ rfl _ _ _ _ rfl ?_ rfl ?_ ?_ ?_ ?_;(focus(simp;done));kernel_rfl;rfl;rfl))
   rw[<-hAe];have hba:=HBr.out.alloc hsz (.cells #[nt,nr,ni,pt,pr,pi,nm,dd] 161);have hbx:Below wr.heap.size wr (wr.alloc (.cells #[nt,nr,ni,pt,pr,pi,nm,dd] 161)):=(Below.refl _ _).alloc (Nat.le_refl _) _;have HCX:=hid (heap_alloc_new wr (.cells #[nt,nr,ni,pt,pr,pi,nm,dd] 161));have NPB:=hid (show(Value.slice A' m c').ownBlock≠some wr.heap.size from λe=>by have:=(HO.out.lt _ e).2;omega);generalize hW:wr.alloc (.cells #[nt,nr,ni,pt,pr,pi,nm,dd] 161)=W at *;have HBW:=hid hba;have HOW:=hid (HO.out.kept (gby_below (r:=none) hbx) (Classical.em _));have HBD:=hid (show Below w.heap.size w W.drew from hba.trans ⟨rfl,rfl,rfl,Nat.le_refl _,λ_ _=>rfl⟩);generalize hpb:wr.heap.size=pB at *;have hpD:pB<W.drew.heap.size:=lt_of_block HCX.out;clear hW hba hbx hpb HO HBr hAe;refine wp_region_held (S:=λW'=>W'.heap[pB]? =some (.cells #[nt,nr,ni,pt,pr,pi,nm,dd] 161 (0,0))) (by kernel_rfl) ?_
   try(change wpAnyH _ _ _ _ _ _ _ _ (World.drew _))
   refine tk 0 (.slice A' m c') ((show W.drew.heap[pB]? =_ from HCX.out)) ?_;go_simp;refine tk 1 (.pointer (some ⟨pB,0,none⟩)) ((show W.drew.heap[pB]? =_ from HCX.out)) ?_;go_simp;refine tk2 2 (.agg #[nt,nr,ni]) rfl (yieldsIf_load_mid (by rfl) _ _ rfl pB (0) rfl [nt,nr,ni] _ (λW' hW'=>range_mid (pre:=[]) (mid:=[nt,nr,ni]) (post:=[pt,pr,pi,nm,dd]) (range_of_block hW')) Tryz.underlying108 rfl (by kernel_rfl)) ((show W.drew.heap[pB]? =_ from HCX.out)) ?_;go_simp;refine tk 3 (.slice A1 N.length c1) ((show W.drew.heap[pB]? =_ from HCX.out)) ?_;go_simp;refine tk2 4 (.agg #[nt,nr,ni,pt,pr,pi,nm,dd]) rfl (yieldsIf_load_mid (by rfl) _ _ rfl pB (0) rfl [nt,nr,ni,pt,pr,pi,nm,dd] _ (λW' hW'=>range_mid (pre:=[]) (mid:=[nt,nr,ni,pt,pr,pi,nm,dd]) (post:=[]) (range_of_block hW')) Tryz.underlying161 rfl (by kernel_rfl)) ((show W.drew.heap[pB]? =_ from HCX.out)) ?_;go_simp;refine tk 6 (.pointer (some ⟨pB,7,none⟩)) ((show W.drew.heap[pB]? =_ from HCX.out)) ?_;go_simp;refine tk2 7 (.bool dd) rfl (Or.inl ⟨by rfl,λW' hW'=>by(have c_:W'.cell? ⟨pB,7,none⟩=some (.bool dd):=cell_of_row _ _ _ _ _ _ hW';go_simp)⟩) ((show W.drew.heap[pB]? =_ from HCX.out)) ?_;go_simp;refine tk 8 (.slice vA V.length vc) ((show W.drew.heap[pB]? =_ from HCX.out)) ?_;go_simp;refine tk 9 (.pointer (some ⟨pB,0,none⟩)) ((show W.drew.heap[pB]? =_ from HCX.out)) ?_;go_simp
   refine tk2 10 (.agg #[nt,nr,ni]) rfl (yieldsIf_load_mid (by rfl) _ _ rfl pB (0) rfl [nt,nr,ni] _ (λW' hW'=>range_mid (pre:=[]) (mid:=[nt,nr,ni]) (post:=[pt,pr,pi,nm,dd]) (range_of_block hW')) Tryz.underlying108 rfl (by kernel_rfl)) ((show W.drew.heap[pB]? =_ from HCX.out)) ?_;go_simp;refine rd1 5 λK hK=> ?_;go_simp;refine(HPA.out W.drew HBD.out).mono ?_;rintro e wa ⟨rfl,hBa⟩;have HBa:=hid (HBD.out.trans (hBa.mono HBD.out.size));have HCa:=hid ((hBa.block pB hpD).trans HCX.out);have HOa:=hid (HOW.out.kept (gby_below (r:=none) (show Below W.heap.size W wa from⟨hBa.os,hBa.tape,hBa.output,hBa.size,hBa.block⟩)) (Classical.em _));clear hBa;go_simp;refine hK.out _ _ (HCa.out) (λ_=> ?_);clear hK K;refine rd1 11 λK hK=> ?_;go_simp;refine(HHA.out wa HBa.out).mono ?_;rintro e wr ⟨rfl,hBb⟩;have HBb:=hid (HBa.out.trans (hBb.mono HBa.out.size));have HCb:=hid ((hBb.block pB (lt_of_block HCa.out)).trans HCa.out);have HOb:=hid (HOa.out.kept (gby_below (r:=none) hBb) (Classical.em _));clear hBb;go_simp;refine hK.out _ _ (HCb.out) (λ_=> ?_);clear hK K;refine tk 12 (.bool (!bh)) (HCb.out) ?_;go_simp;refine tk 13 (.agg #[nt,nr,ni,Z,dd,.bool (!bh)]) (HCb.out) ?_;go_simp;have hsA:(wr.alloc (.cells #[nt,nr,ni,Z,dd,.bool (!bh)] 110)).heap.size=wr.heap.size+1:=by simp
   have HDN:=hid (HOb.out.alloc (.cells #[nt,nr,ni,Z,dd,.bool (!bh)] 110));have HNC:=hid (λ(i:Nat) (y:Value) (h:([nt,nr,ni,Z,dd,.bool (!bh)]:List Value)[i]? =some y)=>cellsN wr [nt,nr,ni,Z,dd,.bool (!bh)] 110 i y h);have HOC:=hid (show ∀u∈([nt,nr,ni,Z,dd,.bool (!bh)]:List Value),u.oneCell'=true from oc_of (c:=#[nt,nr,ni,Z,dd,.bool (!bh)]) rfl);have HBA:=hid (HBb.out.alloc HBb.out.size (.cells #[nt,nr,ni,Z,dd,.bool (!bh)] 110));have HCA:=hid ((Below.heap_alloc wr (.cells #[nt,nr,ni,Z,dd,.bool (!bh)] 110) pB (lt_of_block HCb.out)).trans HCb.out);refine rd1 14 λK hK=> ?_;go_simp;refine hK.out _ _ (HCA.out) (λ_=> ?_);clear hK K;refine rd1 15 λK hK=> ?_;refine step_append_lies _ (by rfl) _ _ 103 (by rfl) w.heap.size 110 i0 (.agg #[(0:Int),(0:Int),(0:Int),.string ⟨#[]⟩,false,false]) 6 48 Tryz.underlying103 hi hz0 hz1 hz2 rfl (by decide) (.slice A' m c') m _ (by rfl) (by exact HDN.out) ⟨wr.heap.size,0,none⟩ 1 1 [nt,nr,ni,Z,dd,.bool (!bh)] (by rfl) (by rfl) (by exact HNC.out) HOC.out (by decide) (by unfold maxLen;omega) (by omega) (by rw[hsA];have:=HBb.out.size;omega) (wr.heap.size+1) hsA ?_;intro gq cap w5 hown1 hgrow hat hlt3;have HO5:=hid hown1;have HB5:=hid (HBA.out.grown hgrow (by rw[hsA];have:=HBb.out.size;omega) (λb hb=>(HOb.out.lt b hb).1));have HC5:=hid ((hgrow.block pB (by rw[hsA];have:=lt_of_block HCb.out;omega) (λe=>NPB.out e.symm)).trans HCA.out);clear hown1 hgrow hat hlt3;refine hK.out _ _ (HC5.out) (λ_=> ?_);clear hK K
   refine tk 16 (.slice (some ⟨gq,0,none⟩) (m+1) cap) (HC5.out) ?_;go_simp;refine wpAnyH_done (by kernel_rfl) ?_ _;go_simp;go_upto_region 9 with fail;clear HPX HPA HHA HBD HBa HCa HOa HBb HCb HOb HDN HNC HOC HBA HCA hsA HC5 HCX HBW HOW NPB hpD;have hs9:slid M (⟨⟨⟨nt,nr⟩,ni⟩,Z,dd,!bh⟩:Itm) m=M++[⟨⟨⟨nt,nr⟩,ni⟩,Z,dd,!bh⟩]:=by rw[HML.out];exact slid_end _ _
   have HO6:=hid (show w5.ownsRow w.heap.size 110 6 (.slice (some ⟨gq,0,none⟩) (m+1) cap) (m+1) ((slid M (⟨⟨⟨nt,nr⟩,ni⟩,Z,dd,!bh⟩:Itm) m).flatMap itmL) by rw[hs9,List.flatMap_append];exact HO5.out);clear hs9 HO5;generalize w5=w6 at *;go_loopw [9] (λi wx=>∃(q:Nat),i= .int .i64 q∧q<=m∧Hid (insIx (λy:Itm=>ltS Z y.path) itm0 M q=insIx (λy:Itm=>ltS Z y.path) itm0 M M.length)∧Hid (wx.ownsRow w.heap.size 110 6 (.slice (some ⟨gq,0,none⟩) (m+1) cap) (m+1) ((slid M (⟨⟨⟨nt,nr⟩,ni⟩,Z,dd,!bh⟩:Itm) q).flatMap itmL))∧Hid (Below w.heap.size w wx)) (λi _=>(RowKit.intOf i).toNat)
   case atStart=>exact⟨m,rfl,Nat.le_refl _,hid (by rw[HML.out]),HO6,HB5⟩
   case round=>
    obtain⟨q,rfl,hq,HIX,HOq,HBq⟩:=hrel;by_cases h0:0<q
    ·obtain⟨q,rfl⟩:∃p,q=p+1:=⟨q-1,by omega⟩;have hqm:q+1<=M.length:=by rw[<-HML.out];exact hq
     have hl1:m+1=(slid M (⟨⟨⟨nt,nr⟩,ni⟩,Z,dd,!bh⟩:Itm) (q+1)).length:=by rw[slid_len,<-HML.out]
     obtain⟨g3,e3,-,hg3,hr3⟩:=ownN_range (f:=itmL) (λ_=>rfl) hl1 HOq.out (k:=q) (by omega) itm0;cases e3;obtain⟨g4,e4,-,-,hr4⟩:=ownN_range (f:=itmL) (λ_=>rfl) hl1 HOq.out (k:=q+1) (by omega) itm0;cases e4;rw[slid_pre hqm] at hr3;rw[slid_at hqm] at hr4;have hsw:=slid_swap (L:=M) (x:=(⟨⟨⟨nt,nr⟩,ni⟩,Z,dd,!bh⟩:Itm)) (z:=itm0) hqm;obtain⟨y,hy⟩:∃y,y=M.getD q itm0:=⟨_,rfl⟩;rw[<-hy] at hr3 hsw;obtain⟨b2,hb2⟩:∃b,b=(λy:Itm=>ltS Z y.path) y:=⟨_,rfl⟩;have HPY:=hid (show(λy:Itm=>ltS Z y.path) (M.getD q itm0)=b2 by rw[<-hy,hb2]);clear hy;obtain⟨⟨⟨t2,r2⟩,n2⟩,z2,d2,bk2⟩:=y;have HR3:=hid (show wr.rangeAt gq (q*6) [t2,r2,n2,z2,d2,bk2] from hr3);have HR4:=hid (show wr.rangeAt gq ((q+1)*6) [nt,nr,ni,Z,dd,.bool (!bh)] from hr4);have y3:=cell_regrown (hr3 3 _ rfl);have x3:=cell_regrown (hr4 3 _ rfl);have HSW:=hid hsw;have k1:(0:Int)<(q:Int)+1:=by omega
     have k2:(0:Int)<=(q:Int):=by omega
     have k3:(q:Int)<(m:Int)+1:=by omega
     have k4:(q:Int)+1<(m:Int)+1:=by omega
     have k5:(0:Int)<=(q:Int)+1:=by omega
     have k6:IntKind.i64.wrap (q:Int)=(q:Int):=by rw[IntKind.wrap_i64];omega
     have HL1:=hid hl1;have q2:Op.bytesLess Z.toList z2.toList=b2:=hb2.symm;have cA:=trivial;clear hr3 hr4 hb2 hsw hl1;cases b2 with
     |false=>
      go_upto_region 9 with fail;refine rqb ?_
      repeat(any_goals(first|go_big_quiet_step (with_reducible exact cA _ _)|quiet_step (with_reducible exact cA _ _)))
      refine qz λwq hBq=> ?_;have HS8:=hid (show((N.take (k+1)).foldl (stepI N V f0) [])=slid M (⟨⟨⟨nt,nr⟩,ni⟩,Z,dd,!bh⟩:Itm) (q+1) by rw[HS9.out];unfold insB;rw[<-HIX.out,insIx_stop (.inr ⟨q,rfl,HPY.out⟩)]);have HOx:=hid (HOq.out.kept (gby_below (r:=none) hBq) (Classical.em _));have HBx:=hid (HBq.out.trans (hBq.mono HBq.out.size));go_wp2;go_roundw
      case rel=>exact⟨k+1,some ⟨gq,0,none⟩,cap,m+1,_,by omega,by go_num,rfl,by omega,HL1,hid HS8.out.symm,HOx,HBx⟩
      case measure=>(simp[RowKit.intOf];omega)
     | true=>
      go_upto_region 9 with fail;refine rqb ?_
      repeat(any_goals(first|go_big_quiet_step (with_reducible exact cA _ _)|quiet_step (with_reducible exact cA _ _)))
      refine qz λwq hBq=> ?_;have HIX2:=hid (show insIx (λy:Itm=>ltS Z y.path) itm0 M q=insIx (λy:Itm=>ltS Z y.path) itm0 M M.length by rw[<-HIX.out,insIx_go HPY.out]);have HR3q:=hid (rangeB HR3.out hg3 hBq);have HR4q:=hid (rangeB HR4.out hg3 hBq);have HOq2:=hid (HOq.out.kept (gby_below (r:=none) hBq) (Classical.em _));have HBq2:=hid (HBq.out.trans (hBq.mono HBq.out.size));clear y3 x3 cA HOq hBq;go_upto_region 11 with fail;obtain⟨V1,hV1⟩:∃V,V=wq.drew.setCells gq ((q+1)*6) (#[t2,r2,n2,z2,d2,bk2]:Array Value).toList:=⟨_,rfl⟩;have hP1:V1.ownsRow w.heap.size 110 6 (.slice (some ⟨gq,0,none⟩) (m+1) cap) (m+1) (((slid M (⟨⟨⟨nt,nr⟩,ni⟩,Z,dd,!bh⟩:Itm) (q+1)).set (q+1) (⟨⟨⟨t2,r2⟩,n2⟩,z2,d2,bk2⟩:Itm)).flatMap itmL)∧wq.drew.grownBy V1 (some gq):=by rw[hV1];exact ownN_put (f:=itmL) (λ_=>rfl) (by decide) HL1.out (show wq.drew.ownsRow _ _ _ _ _ _ from HOq2.out) (by omega) (⟨⟨⟨t2,r2⟩,n2⟩,z2,d2,bk2⟩:Itm)
      obtain⟨V2,hV2⟩:∃V,V=V1.setCells gq (q*6) (#[nt,nr,ni,Z,dd,.bool (!bh)]:Array Value).toList:=⟨_,rfl⟩;have hP2:V2.ownsRow w.heap.size 110 6 (.slice (some ⟨gq,0,none⟩) (m+1) cap) (m+1) ((((slid M (⟨⟨⟨nt,nr⟩,ni⟩,Z,dd,!bh⟩:Itm) (q+1)).set (q+1) (⟨⟨⟨t2,r2⟩,n2⟩,z2,d2,bk2⟩:Itm)).set q (⟨⟨⟨nt,nr⟩,ni⟩,Z,dd,!bh⟩:Itm)).flatMap itmL)∧V1.grownBy V2 (some gq):=by rw[hV2];exact ownN_put (f:=itmL) (λ_=>rfl) (by decide) (by rw[List.length_set];exact HL1.out) hP1.1 (by omega) (⟨⟨⟨nt,nr⟩,ni⟩,Z,dd,!bh⟩:Itm)
      obtain⟨g5,e5,ht5⟩:=own_there (show wq.drew.ownsRow _ _ _ _ _ _ from HOq2.out) (k:=q+1) (by omega);cases e5;obtain⟨g6,e6,ht6⟩:=own_there hP1.1 (k:=q) (by omega);cases e6;have HP2:=hid hP2.1;have HG2:=hid (show wq.heap.size<=V2.heap.size∧(Below w.heap.size w wq->w.heap.size<=gq->Below w.heap.size w V2) from⟨Nat.le_trans (show wq.drew.heap.size<=V1.heap.size from hP1.2.size) hP2.2.size,λhb hl=>(hb.drew.grown hP1.2 (by exact hb.size) (λb e=>by cases e;exact hl)).grown hP2.2 (Nat.le_trans hb.size (show wq.drew.heap.size<=V1.heap.size from hP1.2.size)) (λb e=>by cases e;exact hl)⟩);have HV1:=hid hV1;have HV2:=hid hV2;have HT5:=hid ht5;have HT6:=hid ht6;have HAY:=hid (show(#[t2,r2,n2,z2,d2,bk2]:Array Value).all (·.oneCell')=true by rw[<-Array.all_toList];rfl);have HAX:=hid (show(#[nt,nr,ni,Z,dd,.bool (!bh)]:Array Value).all (·.oneCell')=true by rw[<-Array.all_toList];rfl);clear hP1 hP2 hV1 hV2 ht5 ht6;refine wp_region_held (S:=λ_=>True) (by kernel_rfl) ?_
      try(change wpAnyH _ _ _ _ _ _ _ _ (World.drew _))
      refine tk 0 (.slice (some ⟨gq,0,none⟩) (m+1) cap) (trivial) ?_;go_simp;refine tk 1 (.int .i64 ((q:Int)+1)) (trivial) ?_;go_simp;refine tk 2 (.slice (some ⟨gq,0,none⟩) (m+1) cap) (trivial) ?_;go_simp;refine tk 3 (.int .i64 ((q:Int)+1)) (trivial) ?_;go_simp;refine tk 4 (.int .i64 (q:Int)) (trivial) ?_;go_simp;refine tk 5 (.slice (some ⟨gq,0,none⟩) (m+1) cap) (trivial) ?_;go_simp;refine tk 6 (.int .i64 ((q:Int)+1)) (trivial) ?_;go_simp;refine tk 7 (.int .i64 (q:Int)) (trivial) ?_;go_simp;refine tk 8 (.pointer (some ⟨gq,q*6,none⟩)) (trivial) ?_;go_simp;refine tk 10 (.slice (some ⟨gq,0,none⟩) (m+1) cap) (trivial) ?_;go_simp;refine tk 11 (.int .i64 ((q:Int)+1)) (trivial) ?_;go_simp;refine tk 12 (.pointer (some ⟨gq,(q+1)*6,none⟩)) (trivial) ?_;go_simp;refine wpAnyH_ready (rs:=[9,13]) (by kernel_rfl) (by simp) ?_;refine AllReadyH.cons rfl (λK hK=> ?_) (AllReadyH.cons rfl (λK hK=> ?_) AllReadyH.nil)
      focus
       refine step_load_mid rfl _ _ rfl gq (q*6) rfl [t2,r2,n2,z2,d2,bk2] _ (show wq.drew.rangeAt _ _ _ from HR3q.out) Tryz.underlying110 rfl (by kernel_rfl) ?_;refine hK.out _ _ (trivial) (λ_=> ?_);clear hK K;refine rd1 13 λK hK=> ?_;refine step_load_mid rfl _ _ rfl gq ((q+1)*6) rfl [nt,nr,ni,Z,dd,.bool (!bh)] _ (show wq.drew.rangeAt _ _ _ from HR4q.out) Tryz.underlying110 rfl (by kernel_rfl) ?_;refine hK.out _ _ (trivial) (λ_=> ?_);clear hK K
      rotate_left
      focus
       refine step_load_mid rfl _ _ rfl gq ((q+1)*6) rfl [nt,nr,ni,Z,dd,.bool (!bh)] _ (show wq.drew.rangeAt _ _ _ from HR4q.out) Tryz.underlying110 rfl (by kernel_rfl) ?_;refine hK.out _ _ (trivial) (λ_=> ?_);clear hK K;refine rd1 9 λK hK=> ?_;refine step_load_mid rfl _ _ rfl gq (q*6) rfl [t2,r2,n2,z2,d2,bk2] _ (show wq.drew.rangeAt _ _ _ from HR3q.out) Tryz.underlying110 rfl (by kernel_rfl) ?_;refine hK.out _ _ (trivial) (λ_=> ?_);clear hK K
      all_goals
       refine tk 14 (.pointer (some ⟨gq,(q+1)*6,none⟩)) (trivial) ?_;go_simp;refine rd1 15 λK hK=> ?_;refine step_store_mid rfl _ _ _ rfl gq ((q+1)*6) #[t2,r2,n2,z2,d2,bk2] (by rfl) (by rfl) HT5.out (by kernel_rfl) HAY.out ?_;rw[<-HV1.out];refine hK.out _ _ (trivial) (λ_=> ?_);clear hK K;refine tk 16 (.pointer (some ⟨gq,q*6,none⟩)) (trivial) ?_;go_simp;refine rd1 17 λK hK=> ?_;refine step_store_mid rfl _ _ _ rfl gq (q*6) #[nt,nr,ni,Z,dd,.bool (!bh)] (by rfl) (by rfl) HT6.out (by kernel_rfl) HAX.out ?_;rw[<-HV2.out];refine hK.out _ _ (trivial) (λ_=> ?_);clear hK K;refine wpAnyH_done (by kernel_rfl) ?_ _;go_simp;go_wp2;go_roundw
       case rel=>exact⟨q,by go_num,by omega,HIX2,hid (by rw[<-HSW.out];exact HP2.out),hid (HG2.out.2 HBq2.out (HOq2.out.lt gq rfl).1)⟩
       case measure=>(simp[RowKit.intOf];try omega)
    ·obtain rfl:q=0:=by omega
     go_upto_region 9 with fail;refine rqb ?_
     repeat(any_goals(first|go_big_quiet_step (fail)|quiet_step (fail)))
     refine qz λwq hBq=> ?_;have HS8:=hid (show((N.take (k+1)).foldl (stepI N V f0) [])=slid M (⟨⟨⟨nt,nr⟩,ni⟩,Z,dd,!bh⟩:Itm) 0 by rw[HS9.out];unfold insB;rw[<-HIX.out];rfl);have HL1:=hid (show m+1=(slid M (⟨⟨⟨nt,nr⟩,ni⟩,Z,dd,!bh⟩:Itm) 0).length by rw[slid_len,<-HML.out]);have HOx:=hid (HOq.out.kept (gby_below (r:=none) hBq) (Classical.em _));have HBx:=hid (HBq.out.trans (hBq.mono HBq.out.size));go_wp2;go_roundw
     case rel=>exact⟨k+1,some ⟨gq,0,none⟩,cap,m+1,_,by omega,by go_num,rfl,by omega,HL1,hid HS8.out.symm,HOx,HBx⟩
     case measure=>(simp[RowKit.intOf];omega)
  ·obtain rfl:k=N.length:=by omega
   have i2:¬(N.length:Int)<(N.length:Int):=by omega
   have HM9:=hid (show M=R by rw[HRR.out];have h9:=HM.out;rw[List.take_length] at h9;exact h9);go_wp2;go_ret;refine⟨A',c',by rw[<-HM9.out,<-HML.out];rfl,?_,HB1.out.trans (HBr.out.mono HB1.out.size)⟩;rw[<-HM9.out,<-HML.out];exact own_base HO.out HB1.out.size
end
end Go.Proofs.YtkhmicndehlneaaGreatDoor
