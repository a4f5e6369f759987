/- Part 7 of the walks and plain laws that this claim uses, joined. Conditions: as each theorem states. -/
import Derived.Lib.DecodeNEq
import Derived.Lib.MapLaws
import Derived.Lib.ValidLaws
import Derived.Outline
import Derived.Test.YtkhmicndehlneaaGreatDoorShelf
import Derived.Test.YtkhmicndehlneaaGreatDoorYhd
namespace Go.Proofs.YtkhmicndehlneaaGreatDoor
set_option maxRecDepth 100000
set_option maxHeartbeats 16000000
set_option linter.unusedVariables false
section
section
open Go.RowKit Go.Lib Go.Sort
attribute [local go_sem ↓] Go.wp_at_zero Go.wp_at_succ
structure Chkr (w:World) (b:Nat) (g:Gst) (k:Nat):Prop where
 t:w.cell? ⟨b,0,none⟩=some (.int .i64 g.t)
 r:w.cell? ⟨b,1,none⟩=some (.int .i64 g.r)
 k:w.cell? ⟨b,7,none⟩=some (.int .i64 k)
theorem Chkr.lt {w:World} {b:Nat} {g:Gst} {k:Nat} (h:Chkr w b g k):b<w.heap.size:=eK h.t
theorem Chkr.below {w w':World} {b:Nat} {g:Gst} {k:Nat} (h:Chkr w b g k) (hb:Below w.heap.size w w'):Chkr w' b g k:=
 ⟨(hb.cell (p:=⟨b,0,none⟩) h.lt).trans h.t,(hb.cell (p:=⟨b,1,none⟩) h.lt).trans h.r,(hb.cell (p:=⟨b,7,none⟩) h.lt).trans h.k⟩
theorem Chkr.alloc {w:World} {b:Nat} {g:Gst} {k:Nat} (h:Chkr w b g k) (o:Obj):Chkr (w.alloc o) b g k:=h.below ((ag _ _).alloc (aa _) _)
theorem kC (b:Nat) (g:Gst) (k:Nat) (x:Gid) (w:World) (hC:Chkr w b g k):
  Calls Tryz.prog 151 #[.pointer (some ⟨b,0,none⟩),idV x] w λe w'=>e= .returned (.bool (du g x k))∧Below w.heap.size w w':=by
 obtain⟨⟨t,r⟩,i⟩:=x;have HC:=hid hC;clear hC;show Calls _ _ #[_,.agg #[t,r,i]] _ _;cases hN:Gid.eqb ⟨⟨t,r⟩,i⟩ ⟨⟨0,0⟩,0⟩ with
 |true=>
  have he:=eJ t r i 0 0 0 true hN;have HN:=hid hN;clear hN;go_enter Tryz.func151,Tryz.ntmps151;go_wp2;go_ret;refine⟨dk ?_,(ag _ _).alloc (aa _) _⟩;have:Gid.none ⟨⟨t,r⟩,i⟩=true:=HN.out;simp[du,this]
 |false=>
  have he:=eJ t r i 0 0 0 false hN;have HN:=hid hN;clear hN;go_enter Tryz.func151,Tryz.ntmps151;go_wp2_with fail;refine(it b g k ⟨⟨t,r⟩,i⟩ _ (HC.out.alloc _).t (HC.out.alloc _).r (HC.out.alloc _).k).mono ?_;rintro e w1 ⟨rfl,hB⟩;go_wp2;go_ret;refine⟨dk ?_,((ag _ _).alloc (aa _) _).trans (hB.mono (by simp))⟩;have:Gid.none ⟨⟨t,r⟩,i⟩=false:=HN.out;simp[du,this]
theorem own_any (b:Nat) (g:Gst) (k:Nat) (w:World) (hC:Chkr w b g k):
  Calls Tryz.prog 150 #[.pointer (some ⟨b,0,none⟩)] w λe w'=>e= .returned (idV ⟨g,k⟩)∧Below w.heap.size w w':=by
 obtain⟨t,r⟩:=g;obtain⟨h0,h1,h7⟩:=hC;simp only at h0 h1;show Calls _ _ _ _ λe w'=>e= .returned (.agg #[t,r,.int .i64 k])∧_;have hb:=eK h0;go_enter Tryz.func150,Tryz.ntmps150;have hf:w.frozen? ⟨b,0,none⟩=w.frozen? ⟨b,0,none⟩:=rfl;go_wp2;go_region_held3 (λw'=>w'.cell? ⟨b,0,none⟩=some (.int .i64 t)∧w'.cell? ⟨b,1,none⟩=some (.int .i64 r)∧w'.cell? ⟨b,7,none⟩=some (.int .i64 k)) (go_keep) (fail)
 all_goals
  go_wp2;refine bB (v:= .agg #[t,r,.int .i64 k]) (by simp[results,Tryz.results150,go_sem]) rfl ⟨rfl,?_⟩;exact((ag _ _).alloc (aa _) _).drew
theorem cdots_any (b:Nat) (g:Gst) (k:Nat) (A:Option Addr) (c:Nat) (l:List Gst) (S:Nat->Prop) (w:World) (hC:Chkr w b g k) (hl:l.length<=9223372036854775807) (hA:StsS w S A l):
  Calls Tryz.prog 154 #[.pointer (some ⟨b,0,none⟩),.slice A l.length c] w λe w'=>e= .returned (.bool (il g l))∧Below w.heap.size w w':=by
 have HC:=hid hC;have HA:=hid hA;obtain⟨n,hn⟩:∃n,n=l.length:=⟨_,rfl⟩;obtain⟨ans,hans⟩:∃r,r=il g l:=⟨_,rfl⟩;rw[<-hn] at hl ⊢;rw[<-hans];have HN:=hid hn;have HV:=hid hans;clear hC hA hn hans;go_enter Tryz.func154,Tryz.ntmps154;go_wp2;go_loopw [9] (λi wr=>∃k:Nat,k<=n∧i= .int .i64 k∧Hid (∀i,i<k->dotB g l i=true)∧Below w.heap.size w wr) (λi _=>n-(RowKit.intOf i).toNat)
 case atStart=>exact⟨0,by omega,rfl,λi hi=>absurd hi (by omega),ag _ _⟩
 case round=>
  obtain⟨j,hj,rfl,HK,hBr⟩:=hrel;by_cases hlt:j<n
  ·obtain⟨ab,ao,rfl,-,hab,c0,c1⟩:=StsS.at_ (RowG.agr HA.out (Agr.below hBr)) (k:=j) (by have:=HN.out;omega);obtain⟨x,hx⟩:∃x,x=l.getD j .zero:=⟨_,rfl⟩;rw[<-hx] at c0 c1;have HX:=hid hx;clear hx;obtain⟨xt,xr⟩:=x;obtain⟨gt,gr⟩:=g;simp only at c0 c1;have HC1:=HC.out.below hBr;have kt:=aj (((HC1).alloc (.cells #[xt,xr] 42))).t;have kr:=aj (((HC1).alloc (.cells #[xt,xr] 42))).r;clear HC1;simp only at kt kr;have x0:=aj (w:=wr.alloc (.cells #[xt,xr] 42)) (a:=⟨wr.heap.size,0,none⟩) (v:= .int .i64 xt) (by go_simp);have x1:=aj (w:=wr.alloc (.cells #[xt,xr] 42)) (a:=⟨wr.heap.size,1,none⟩) (v:= .int .i64 xr) (by go_simp);have cR:=λd os=>ay (jV xt xr (grow (redrawn (wr.alloc (.cells #[xt,xr] 42)) d) os));have cC:=λd os=>ay (cmp_any xt xr gt gr (grow (redrawn (wr.alloc (.cells #[xt,xr] 42)) d) os));have hc:=cmpS_gt ⟨xt,xr⟩ ⟨gt,gr⟩;have bad:dotB ⟨gt,gr⟩ l j=false->ans=false:=λh=>by
    rw[HV.out];unfold il;rw[fl (by rw[<-HN.out];exact hlt) h];rfl
   have HBad:=hid bad;clear bad;cases hR:Gst.right ⟨xt,xr⟩ with
   |false=>
    rw[hR] at cR;obtain rfl:ans=false:=HBad.out (by unfold dotB;rw[<-HX.out,hR];rfl);clear hR cC hc;go_wp2;refine rqb ?_
    repeat(any_goals(first|go_big_quiet_step (with_reducible exact cR _ _)|quiet_step (with_reducible exact cR _ _)))
    refine qz λwq hBq=> ?_;go_wp2;go_ret;exact⟨rfl,(hBr.alloc hBr.size _).trans (hBq.mono (by have:=hBr.size;simp;omega))⟩
   | true=>
    rw[hR] at cR;have HR:=hid hR;clear hR;cases hG:Gst.lt ⟨gt,gr⟩ ⟨xt,xr⟩ with
    |true=>
     rw[hG] at hc;obtain rfl:ans=false:=HBad.out (by unfold dotB;rw[<-HX.out,hG,HR.out];rfl);clear hG;go_wp2;refine rqb ?_
     repeat(any_goals(first|go_big_quiet_step (with_reducible first|exact cR _ _|exact cC _ _)|quiet_step (with_reducible first|exact cR _ _|exact cC _ _)))
     refine qz λwq hBq=> ?_;go_wp2;go_ret;exact⟨rfl,(hBr.alloc hBr.size _).trans (hBq.mono (by have:=hBr.size;simp;omega))⟩
    | false=>
     rw[hG] at hc;have HG:=hid hG;clear hG;by_cases hj0:j=0
     ·have b1:decide (0<j)=false:=by rw[aU];omega
      have HK2:Hid (∀i,i<j+1->dotB ⟨gt,gr⟩ l i=true):=λi hi=>by
       obtain rfl:i=j:=by omega
       unfold dotB;rw[<-HX.out,HG.out,HR.out];simp[hj0]
      clear hj0;go_wp2;refine rqb ?_
      repeat(any_goals(first|go_big_quiet_step (with_reducible first|exact cR _ _|exact cC _ _)|quiet_step (with_reducible first|exact cR _ _|exact cC _ _)))
      refine qz λwq hBq=> ?_;go_wp2;go_roundw
      case rel=>exact⟨j+1,by omega,by go_num,HK2,(hBr.alloc hBr.size _).trans (hBq.mono (by have:=hBr.size;simp;omega))⟩
      case measure=>simp[RowKit.intOf];omega
     ·obtain⟨m,hm⟩:∃m,m+1=j:=⟨j-1,by omega⟩;obtain⟨ab2,ao2,e2,-,-,d0,d1⟩:=StsS.at_ (RowG.agr HA.out (Agr.below hBr)) (k:=m) (by have:=HN.out;omega);injection e2 with e2;injection e2 with e3 e4;subst e3 e4;obtain⟨y,hy⟩:∃y,y=l.getD m .zero:=⟨_,rfl⟩;rw[<-hy] at d0 d1;have HY:=hid hy;clear hy;obtain⟨yt,yr⟩:=y;simp only at d0 d1;have y0:=aj (w:=(wr.alloc (.cells #[xt,xr] 42))) (a:=⟨ab,ao+m*2,none⟩) (v:= .int .i64 yt) (by rw[ej _ _ _ hab];exact d0);have y1:=aj (w:=(wr.alloc (.cells #[xt,xr] 42))) (a:=⟨ab,ao+m*2+1,none⟩) (v:= .int .i64 yr) (by rw[ej _ _ _ hab];exact d1);have cD:=λd os=>ay (cmp_any yt yr xt xr (grow (redrawn (wr.alloc (.cells #[xt,xr] 42)) d) os));have hd:=cmpS_ge ⟨yt,yr⟩ ⟨xt,xr⟩;have b1:decide (0<j)=true:=by rw[ak];omega
      have b2:(j:Int)-1=(m:Int):=by omega
      have b3:(0:Int)<=(m:Int):=by omega
      have b4:(m:Int)<(n:Int):=by omega
      have b5:IntKind.i64.wrap ((j:Int)-1)=(m:Int):=by rw[b2];exact ds _ (by omega)
      have b6:m=j-1:=by omega
      have HM:=hid b6;clear b6 hm hj0;cases hL:Gst.lt ⟨yt,yr⟩ ⟨xt,xr⟩ with
      | false=>
       rw[hL] at hd
       obtain rfl:ans=false:=HBad.out (by
        unfold dotB;rw[<-HX.out,HG.out,HR.out,<-HM.out,<-HY.out,hL]
        simp;have:=HM.out;omega)
       clear hL;go_wp2;refine rqb ?_
       repeat(any_goals(first|go_big_quiet_step (with_reducible first|exact cR _ _|exact cC _ _|exact cD _ _)|quiet_step (with_reducible first|exact cR _ _|exact cC _ _|exact cD _ _)))
       refine qz λwq hBq=> ?_;go_wp2;go_ret;exact⟨rfl,(hBr.alloc hBr.size _).trans (hBq.mono (by have:=hBr.size;simp;omega))⟩
      | true=>
       rw[hL] at hd;have HK2:Hid (∀i,i<j+1->dotB ⟨gt,gr⟩ l i=true):=λi hi=>by
        rcases cj i j with h|h
        ·exact HK.out i h
        ·obtain rfl:i=j:=by omega
         unfold dotB;rw[<-HX.out,HG.out,HR.out,<-HM.out,<-HY.out,hL];simp
       clear hL;go_wp2;refine rqb ?_
       repeat(any_goals(first|go_big_quiet_step (with_reducible first|exact cR _ _|exact cC _ _|exact cD _ _)|quiet_step (with_reducible first|exact cR _ _|exact cC _ _|exact cD _ _)))
       refine qz λwq hBq=> ?_;clear b5;go_wp2;go_roundw
       case rel=>exact⟨j+1,by omega,by go_num,HK2,(hBr.alloc hBr.size _).trans (hBq.mono (by have:=hBr.size;simp;omega))⟩
       case measure=>simp[RowKit.intOf];omega
  ·obtain rfl:j=n:=by omega
   have hv:ans=decide (j<=200):=by
    rw[HV.out];unfold il;rw[ed (λi hi=>HK.out i (by have:=HN.out;omega)),<-HN.out];rfl
   by_cases h2:j<=200
   ·obtain rfl:ans=true:=by rw[hv];exact aN h2
    have t1:(j:Int)<=200:=by omega
    clear hv;go_wp2;go_ret;exact⟨rfl,hBr⟩
   ·obtain rfl:ans=false:=by rw[hv];exact aE h2
    have t1:¬(j:Int)<=200:=by omega
    clear hv;go_wp2;go_ret;exact⟨rfl,hBr⟩
end
section
open Go.RowKit Go.Lib Go.Sort
attribute [local go_sem ↓] Go.wp_at_zero Go.wp_at_succ
def cmpD (a b:Gid):Int:=orI (cmpS a.s b.s) (cmpI a.i b.i)
theorem cmpS_zero (a b:Gst):cmpS a b=0↔a.eqb b=true:=by
 simp only[cmpS,orI,cmpI,Gst.eqb,ap,ak]
 repeat' split
 all_goals omega
theorem cmpI_lt (a b:Int):cmpI a b<0↔a<b:=by
 unfold cmpI
 repeat' split
 all_goals omega
theorem cmpD_lt (a b:Gid):decide (cmpD a b<0)=a.lt b:=by
 rw[bw,ak];have h1:=cmpI_lt a.i b.i;have h2:cmpS a.s b.s<0↔a.s.lt b.s=true:=by rw[<-cmpS_lt];simp
 have h3:=cmpS_zero a.s b.s;unfold cmpD orI;simp only[Gid.lt,ch,ap,ak,<-h2,<-h3];split<;>omega
theorem cmpD_ge (a b:Gid):decide (0<=cmpD a b)= !a.lt b:=by
 rw[<-cmpD_lt,bw];simp
theorem or_blk (b:Nat) (x y:Int) (T:TypeId) (W:World) (hb:W.heap[b]? =some (.cells #[x,y] T (0,0))):
  Calls Tryz.prog 147 #[.slice (some ⟨b,0,none⟩) 2 2] W λe w'=>e= .returned (.int .i64 (orI x y))∧w'=W:=
 or_any _ _ _ _ (by rw[crw hb];rfl) (by rw[crw hb];rfl)
theorem cmpid_any (t r i t' r' i':Int) (w:World):
  Calls Tryz.prog 190 #[.agg #[t,r,i],.agg #[t',r',i']] w λe w'=>e= .returned (.int .i64 (cmpD ⟨⟨t,r⟩,i⟩ ⟨⟨t',r'⟩,i'⟩))∧Below w.heap.size w w':=by
 go_enter Tryz.func190,Tryz.ntmps190;go_wp2;generalize hW:(w.alloc (.cells #[t,r,i] 108)).alloc (.cells #[t',r',i'] 108)=W;have hs:w.heap.size+2=W.heap.size:=by subst hW;simp
 have a0:W.cell? ⟨w.heap.size,0,none⟩=some (.int .i64 t):=by subst hW;go_simp
 have a1:W.cell? ⟨w.heap.size,1,none⟩=some (.int .i64 r):=by subst hW;go_simp
 have a2:W.cell? ⟨w.heap.size,2,none⟩=some (.int .i64 i):=by subst hW;go_simp
 have b0:W.cell? ⟨w.heap.size+1,0,none⟩=some (.int .i64 t'):=by subst hW;go_simp
 have b1:W.cell? ⟨w.heap.size+1,1,none⟩=some (.int .i64 r'):=by subst hW;go_simp
 have b2:W.cell? ⟨w.heap.size+1,2,none⟩=some (.int .i64 i'):=by subst hW;go_simp
 have hBW:Below w.heap.size w W:=by subst hW;exact((ag _ _).alloc (aa _) _).alloc (by simp) _
 have HS:=hid hs;have l0:=eK a0;have l1:=eK b0;clear hW hs
 go_region_held3 (λw'=>w'.cell? ⟨w.heap.size,0,none⟩=some (.int .i64 t)∧w'.cell? ⟨w.heap.size,1,none⟩=some (.int .i64 r)∧w'.cell? ⟨w.heap.size,2,none⟩=some (.int .i64 i)∧w'.cell? ⟨w.heap.size+1,0,none⟩=some (.int .i64 t')∧w'.cell? ⟨w.heap.size+1,1,none⟩=some (.int .i64 r')∧w'.cell? ⟨w.heap.size+1,2,none⟩=some (.int .i64 i')) (first|go_keep|(refine⟨?_,?_,?_,?_,?_,?_⟩<;>(rw[hB1.cell (by simpa using(by assumption))];assumption))) (first
  |(go_at_call 93;refine(cmp_any _ _ _ _ _).mono ?_;rintro e w1 ⟨rfl,hB1⟩)
  |(go_at_call 148;refine(compare_any _ _ _).mono ?_;rintro e w1 ⟨rfl,rfl⟩)
  |(go_at_call 147;refine(or_blk _ _ _ _ _ (by exact am _ _)).mono ?_;rintro e w1 ⟨rfl,rfl⟩))
 all_goals
  go_wp2;go_ret;have h9:W.heap.size<=w1.heap.size:=hB1.size;exact⟨rfl,(hBW.drew.trans (hB1.mono (show w.heap.size<=W.heap.size by omega))).alloc (by omega) _⟩
theorem celems_any (b:Nat) (g:Gst) (k:Nat) (A:Option Addr) (c:Nat) (l:List Gid) (S:Nat->Prop) (w:World) (hC:Chkr w b g k) (hl:l.length<=9223372036854775807) (hA:IdsS w S A l):
  Calls Tryz.prog 156 #[.pointer (some ⟨b,0,none⟩),.slice A l.length c] w λe w'=>e= .returned (.bool (fQ g l k))∧Below w.heap.size w w':=by
 have HC:=hid hC;have HA:=hid hA;obtain⟨n,hn⟩:∃n,n=l.length:=⟨_,rfl⟩;obtain⟨ans,hans⟩:∃r,r=fQ g l k:=⟨_,rfl⟩;rw[<-hn] at hl ⊢;rw[<-hans];have HN:=hid hn;have HV:=hid hans;clear hC hA hn hans;go_enter Tryz.func156,Tryz.ntmps156;go_wp2;go_loopw [9] (λi wr=>∃j:Nat,j<=n∧i= .int .i64 j∧Hid (∀i,i<j->ib g l k i=true)∧Below w.heap.size w wr) (λi _=>n-(RowKit.intOf i).toNat)
 case atStart=>exact⟨0,by omega,rfl,λi hi=>absurd hi (by omega),ag _ _⟩
 case round=>
  obtain⟨j,hj,rfl,HK,hBr⟩:=hrel;by_cases hlt:j<n
  ·obtain⟨ab,ao,rfl,-,hab,c0,c1,c2⟩:=IdsS.at_ (RowG.agr HA.out (Agr.below hBr)) (k:=j) (by have:=HN.out;omega);obtain⟨x,hx⟩:∃x,x=l.getD j .zero:=⟨_,rfl⟩;rw[<-hx] at c0 c1 c2;have HX:=hid hx;clear hx;obtain⟨⟨xt,xr⟩,xi⟩:=x;simp only at c0 c1 c2;have x0:=aj (w:=(wr.alloc (.cells #[xt,xr,xi] 108))) (a:=⟨wr.heap.size,0,none⟩) (v:= .int .i64 xt) (by go_simp);have x1:=aj (w:=(wr.alloc (.cells #[xt,xr,xi] 108))) (a:=⟨wr.heap.size,1,none⟩) (v:= .int .i64 xr) (by go_simp);have x2:=aj (w:=(wr.alloc (.cells #[xt,xr,xi] 108))) (a:=⟨wr.heap.size,2,none⟩) (v:= .int .i64 xi) (by go_simp);have HCr:=HC.out.below hBr;have cA:∀d os,Calls Tryz.prog 153 #[.pointer (some ⟨b,0,none⟩),.agg #[xt,xr,xi]] (grow (redrawn (wr.alloc (.cells #[xt,xr,xi] 108)) d) os) λe w''=>e= .returned (.bool (cL g ⟨⟨xt,xr⟩,xi⟩ k))∧∃p:Regrown,w''=grow (redrawn (wr.alloc (.cells #[xt,xr,xi] 108)) p.d) p.os:=λd os=>
    ay (it b g k ⟨⟨xt,xr⟩,xi⟩ _ (aj (HCr.alloc _).t d os) (aj (HCr.alloc _).r d os) (aj (HCr.alloc _).k d os))
   clear HCr;have bad:ib g l k j=false->ans=false:=λh=>by
    rw[HV.out];unfold fQ;rw[fl (by rw[<-HN.out];exact hlt) h];rfl
   have HBad:=hid bad;clear bad;cases hR:cL g ⟨⟨xt,xr⟩,xi⟩ k with
   |false=>
    rw[hR] at cA;obtain rfl:ans=false:=HBad.out (by unfold ib;rw[<-HX.out,hR];rfl);clear hR;go_wp2;refine rqb ?_
    repeat(any_goals(first|go_big_quiet_step (with_reducible exact cA _ _)|quiet_step (with_reducible exact cA _ _)))
    refine qz λwq hBq=> ?_;go_wp2;go_ret;exact⟨rfl,(hBr.alloc hBr.size _).trans (hBq.mono (by have:=hBr.size;simp;omega))⟩
   | true=>
    rw[hR] at cA;have HR:=hid hR;clear hR;by_cases hj0:j=0
    ·have b1:decide (0<j)=false:=by rw[aU];omega
     have HK2:Hid (∀i,i<j+1->ib g l k i=true):=λi hi=>by
      obtain rfl:i=j:=by omega
      unfold ib;rw[<-HX.out,HR.out];simp[hj0]
     clear hj0;go_wp2;refine rqb ?_
     repeat(any_goals(first|go_big_quiet_step (with_reducible exact cA _ _)|quiet_step (with_reducible exact cA _ _)))
     refine qz λwq hBq=> ?_;go_wp2;go_roundw
     case rel=>exact⟨j+1,by omega,by go_num,HK2,(hBr.alloc hBr.size _).trans (hBq.mono (by have:=hBr.size;simp;omega))⟩
     case measure=>simp[RowKit.intOf];omega
    ·obtain⟨m,hm⟩:∃m,m+1=j:=⟨j-1,by omega⟩;obtain⟨ab2,ao2,e2,-,-,d0,d1,d2⟩:=IdsS.at_ (RowG.agr HA.out (Agr.below hBr)) (k:=m) (by have:=HN.out;omega);injection e2 with e2;injection e2 with e3 e4;subst e3 e4;obtain⟨y,hy⟩:∃y,y=l.getD m .zero:=⟨_,rfl⟩;rw[<-hy] at d0 d1 d2;have HY:=hid hy;clear hy;obtain⟨⟨yt,yr⟩,yi⟩:=y;simp only at d0 d1 d2;have y0:=aj (w:=(wr.alloc (.cells #[xt,xr,xi] 108))) (a:=⟨ab,ao+m*3,none⟩) (v:= .int .i64 yt) (by rw[ej _ _ _ hab];exact d0);have y1:=aj (w:=(wr.alloc (.cells #[xt,xr,xi] 108))) (a:=⟨ab,ao+m*3+1,none⟩) (v:= .int .i64 yr) (by rw[ej _ _ _ hab];exact d1);have y2:=aj (w:=(wr.alloc (.cells #[xt,xr,xi] 108))) (a:=⟨ab,ao+m*3+2,none⟩) (v:= .int .i64 yi) (by rw[ej _ _ _ hab];exact d2);have cD:=λd os=>ay (cmpid_any yt yr yi xt xr xi (grow (redrawn (wr.alloc (.cells #[xt,xr,xi] 108)) d) os));have hd:=cmpD_ge ⟨⟨yt,yr⟩,yi⟩ ⟨⟨xt,xr⟩,xi⟩;have b1:decide (0<j)=true:=by rw[ak];omega
     have b2:(j:Int)-1=(m:Int):=by omega
     have b3:(0:Int)<=(m:Int):=by omega
     have b4:(m:Int)<(n:Int):=by omega
     have b5:IntKind.i64.wrap ((j:Int)-1)=(m:Int):=by rw[b2];exact ds _ (by omega)
     have b6:m=j-1:=by omega
     have HM:=hid b6;clear b6 hm hj0;cases hL:Gid.lt ⟨⟨yt,yr⟩,yi⟩ ⟨⟨xt,xr⟩,xi⟩ with
     | false=>
      rw[hL] at hd
      obtain rfl:ans=false:=HBad.out (by
       unfold ib;rw[<-HX.out,HR.out,<-HM.out,<-HY.out,hL];have:¬j=0:=λe=>by rw[e] at b1;simp at b1
       simp[this])
      clear hL;go_wp2;refine rqb ?_
      repeat(any_goals(first|go_big_quiet_step (with_reducible first|exact cA _ _|exact cD _ _)|quiet_step (with_reducible first|exact cA _ _|exact cD _ _)))
      refine qz λwq hBq=> ?_;go_wp2;go_ret;exact⟨rfl,(hBr.alloc hBr.size _).trans (hBq.mono (by have:=hBr.size;simp;omega))⟩
     | true=>
      rw[hL] at hd;have HK2:Hid (∀i,i<j+1->ib g l k i=true):=λi hi=>by
       rcases cj i j with h|h
       ·exact HK.out i h
       ·obtain rfl:i=j:=by omega
        unfold ib;rw[<-HX.out,HR.out,<-HM.out,<-HY.out,hL];simp
      clear hL;go_wp2;refine rqb ?_
      repeat(any_goals(first|go_big_quiet_step (with_reducible first|exact cA _ _|exact cD _ _)|quiet_step (with_reducible first|exact cA _ _|exact cD _ _)))
      refine qz λwq hBq=> ?_;clear b5;go_wp2;go_roundw
      case rel=>exact⟨j+1,by omega,by go_num,HK2,(hBr.alloc hBr.size _).trans (hBq.mono (by have:=hBr.size;simp;omega))⟩
      case measure=>simp[RowKit.intOf];omega
  ·obtain rfl:j=n:=by omega
   have hv:ans=(decide (1<=j) && decide (j<=2000)):=by
    rw[HV.out];unfold fQ;rw[ed (λi hi=>HK.out i (by have:=HN.out;omega)),<-HN.out];rfl
   by_cases h1:1<=j
   ·have t0:(1:Int)<=(j:Int):=by omega
    by_cases h2:j<=2000
    ·obtain rfl:ans=true:=by rw[hv];simp[h1,h2]
     have t1:(j:Int)<=2000:=by omega
     clear hv;go_wp2;go_ret;exact⟨rfl,hBr⟩
    ·obtain rfl:ans=false:=by rw[hv];simp;omega
     have t1:¬(j:Int)<=2000:=by omega
     clear hv;go_wp2;go_ret;exact⟨rfl,hBr⟩
   ·obtain rfl:ans=false:=by rw[hv];simp;omega
    have t1:¬(1:Int)<=(j:Int):=by omega
    clear hv;go_wp2;go_ret;exact⟨rfl,hBr⟩
end
section
open Go.RowKit Go.Lib Go.Sort
theorem Calls.regrown_same {P:Program} {f:FuncId} {args:Array Value} {w:World} {d:Nat} {os:Array Obj} {v:Value}
  (h:Calls P f args (grow (redrawn w d) os) λe w'=>e= .returned v∧w'=grow (redrawn w d) os):Calls P f args (grow (redrawn w d) os) λe w''=>e= .returned v∧∃p:Regrown,w''=grow (redrawn w p.d) p.os:=
 h.mono λ_ _ ⟨he,hb⟩=>⟨he,⟨d,os⟩,hb⟩
theorem VecR.regrown {w:World} {A:Option Addr} {v:List Int} (h:VecR w A v) (d:Nat) (os:Array Obj):VecR (grow (redrawn w d) os) A v:=h.below (bE w d os)
theorem head_any (g:Grp) (dA:Option Addr) (dc:Nat) (oA:Option Addr) (oc:Nat) (w:World) (hl:g.deps.length<=dc) (hc:dc<=9223372036854775807) (hn:i63 g.n) (hD:VecR w dA g.deps):
  Calls Tryz.prog 91 #[.agg (grA g dA dc oA oc)] w λe w'=>e= .returned (.bool (gC g))∧Below w.heap.size w w':=by
 obtain⟨⟨t,r⟩,n,v,⟨ut,ur⟩,ops⟩:=g;obtain⟨ans,ha⟩:∃a,a=gC ⟨⟨t,r⟩,n,v,⟨ut,ur⟩,ops⟩:=⟨_,rfl⟩;rw[<-ha];have HV:=hid ha;clear ha;unfold i63 at hn;simp only at hl hn hD;show Calls _ _ #[.agg #[t,r,n,.slice dA v.length dc,ut,ur,.slice oA ops.length oc]] _ _;generalize ops.length=on;obtain⟨W,hW⟩:∃W,W=w.alloc (.cells #[t,r,n,.slice dA v.length dc,ut,ur,.slice oA on oc] 45):=⟨_,rfl⟩;have hBW:Below w.heap.size w W:=by subst hW;exact(ag _ _).alloc (aa _) _
 have hD2:=hD.below hBW;have hA:W.heap[w.heap.size]? =some (.cells #[t,r,n,.slice dA v.length dc,ut,ur,.slice oA on oc] 45 (0,0)):=by subst hW;exact am _ _
 have x0:=rg0 hA;have x1:=rg1 hA;have x2:=rg2 hA;have x3:=rg3 hA;have cR:=λd os=>ay (jV t r (grow (redrawn W d) os));have cV:=λd os=>Calls.regrown_same (vector_any dA dc v (grow (redrawn W d) os) hl (by omega) (hD2.regrown d os));have cA:=λd os=>Calls.regrown_same (at_any dA dc v r (grow (redrawn W d) os) (by omega) (hD2.regrown d os));have hlv:v.length<=9223372036854775807:=by omega
 have HW:=hid hW;clear hA hD hD2;cases hR:Gst.right ⟨t,r⟩ with
 |false=>
  rw[hR] at cR;obtain rfl:ans=false:=by rw[HV.out];simp[gC,hR]
  clear hR cV cA hW;go_enter Tryz.func91,Tryz.ntmps91;go_wp2;rw[<-HW.out];refine rqb ?_
  repeat(any_goals(first|go_big_quiet_step (with_reducible exact cR _ _)|quiet_step (with_reducible exact cR _ _)))
  refine qz λwq hBq=> ?_;go_wp2;go_ret;exact⟨rfl,hBW.trans (hBq.mono hBW.size)⟩
 |true=>
 rw[hR] at cR;have HR:=hid hR;clear hR;by_cases h1:1<=n
 ·by_cases h2:n<=1099511627776
  ·have hw:IntKind.i64.wrap (n-1)=n-1:=ds _ (by omega);cases hV:vecB v with
   |false=>
    rw[hV] at cV;obtain rfl:ans=false:=by rw[HV.out];simp[gC,hV]
    clear hV cA hW hw;go_enter Tryz.func91,Tryz.ntmps91;go_wp2;rw[<-HW.out];refine rqb ?_
    repeat(any_goals(first|go_big_quiet_step (with_reducible first|exact cR _ _|exact cV _ _)|quiet_step (with_reducible first|exact cR _ _|exact cV _ _)))
    refine qz λwq hBq=> ?_;go_wp2;go_ret;exact⟨rfl,hBW.trans (hBq.mono hBW.size)⟩
   | true=>
    rw[hV] at cV;have HVV:=hid hV;have hv:ans=decide (atV v r=n-1):=by rw[HV.out];simp[gC,HR.out,HVV.out,h1,h2]
    generalize atV v r=a at *;clear hV hW;by_cases h3:a=n-1
    ·obtain rfl:ans=true:=by rw[hv];exact aN h3
     have t3:(a == n-1)=true:=by rw[ce];exact h3
     clear hv h3;go_enter Tryz.func91,Tryz.ntmps91;go_wp2;rw[<-HW.out];refine rqb ?_
     repeat(any_goals(first|go_big_quiet_step (with_reducible first|exact cR _ _|exact cV _ _|exact cA _ _)|quiet_step (with_reducible first|exact cR _ _|exact cV _ _|exact cA _ _)))
     refine qz λwq hBq=> ?_;clear hw;go_wp2;go_ret;exact⟨rfl,hBW.trans (hBq.mono hBW.size)⟩
    ·obtain rfl:ans=false:=by rw[hv];exact aE h3
     have t3:(a == n-1)=false:=by rw[aV];exact h3
     clear hv h3;go_enter Tryz.func91,Tryz.ntmps91;go_wp2;rw[<-HW.out];refine rqb ?_
     repeat(any_goals(first|go_big_quiet_step (with_reducible first|exact cR _ _|exact cV _ _|exact cA _ _)|quiet_step (with_reducible first|exact cR _ _|exact cV _ _|exact cA _ _)))
     refine qz λwq hBq=> ?_;clear hw;go_wp2;go_ret;exact⟨rfl,hBW.trans (hBq.mono hBW.size)⟩
  ·obtain rfl:ans=false:=by rw[HV.out];simp[gC,h2]
   have t2:decide (n<=1099511627776)=false:=aE h2;clear cV cA hW;go_enter Tryz.func91,Tryz.ntmps91;go_wp2;rw[<-HW.out];refine rqb ?_
   repeat(any_goals(first|go_big_quiet_step (with_reducible exact cR _ _)|quiet_step (with_reducible exact cR _ _)))
   refine qz λwq hBq=> ?_;go_wp2;go_ret;exact⟨rfl,hBW.trans (hBq.mono hBW.size)⟩
 ·obtain rfl:ans=false:=by rw[HV.out];simp[gC,h1]
  have t1:decide (1<=n)=false:=aE h1;clear cV cA hW;go_enter Tryz.func91,Tryz.ntmps91;go_wp2;rw[<-HW.out];refine rqb ?_
  repeat(any_goals(first|go_big_quiet_step (with_reducible exact cR _ _)|quiet_step (with_reducible exact cR _ _)))
  refine qz λwq hBq=> ?_;go_wp2;go_ret;exact⟨rfl,hBW.trans (hBq.mono hBW.size)⟩
end
end
section
open Go.Lib
def cN (b:Nat):Prop:=128<=b∧b<192
instance (b:Nat):Decidable (cN b):=by unfold cN;exact inferInstance
def rfN (n b0 b1 b2 b3:Nat):Option (Nat×Nat):=
 if b0<128 then some (b0,1)
 else if 194<=b0∧b0<224 then (if 2<=n∧cN b1 then some ((b0-192)*64+(b1-128),2) else none)
 else if 224<=b0∧b0<240 then
  (if 3<=n∧cN b1∧cN b2∧2048<=((b0-224)*64+(b1-128))*64+(b2-128)∧(((b0-224)*64+(b1-128))*64+(b2-128)<55296∨57344<=((b0-224)*64+(b1-128))*64+(b2-128)) then some (((b0-224)*64+(b1-128))*64+(b2-128),3) else none)
 else if 240<=b0∧b0<245 then
  (if 4<=n∧cN b1∧cN b2∧cN b3∧65536<=(((b0-240)*64+(b1-128))*64+(b2-128))*64+(b3-128)∧(((b0-240)*64+(b1-128))*64+(b2-128))*64+(b3-128)<=1114111 then some ((((b0-240)*64+(b1-128))*64+(b2-128))*64+(b3-128),4) else none)
 else none
theorem rfN_eq (n b0 b1 b2 b3:Nat) (h0:b0<256) (h1:b1<256) (h2:b2<256) (h3:b3<256):
  (rfN n b0 b1 b2 b3=none∧decodeN n b0 b1 b2 b3=(65533,1))∨(rfN n b0 b1 b2 b3=some (decodeN n b0 b1 b2 b3)∧decodeN n b0 b1 b2 b3≠(65533,1)):=by
 have key:∀(x y:Nat×Nat),x=y->y.2≠1∨y.1<128->((some x:Option (Nat×Nat))=none∧y=(65533,1))∨(some x=some y∧y≠(65533,1)):=by
  intro x y e hy;subst e;refine .inr ⟨rfl,λh=> ?_⟩;rw[h] at hy;simp at hy
 by_cases c0:b0<128
 ·unfold rfN decodeN;rw[aJ c0,aJ c0];exact key _ _ rfl (.inr c0)
 by_cases c1:b0<194
 ·left;refine⟨?_,decodeN_bad n b0 b1 b2 b3 (.inl ⟨by omega,c1⟩)⟩;unfold rfN;rw[aC c0,aC (by omega),aC (by omega),aC (by omega)]
 by_cases c5:245<=b0
 ·left;refine⟨?_,decodeN_bad n b0 b1 b2 b3 (.inr ⟨by omega,h0⟩)⟩;unfold rfN;rw[aC c0,aC (by omega),aC (by omega),aC (by omega)]
 unfold rfN decodeN cN;rw[aC c0,aC c0]
 repeat' split
 all_goals first
  |(exfalso;omega)
  |exact .inl ⟨rfl,rfl⟩
  |exact key _ _ (by apply Prod.ext<;>simp only<;>omega) (.inl (by simp))
def rfL (l:List UInt8):Option (Nat×Nat):=rfN l.length (l.getD 0 0).toNat (l.getD 1 0).toNat (l.getD 2 0).toNat (l.getD 3 0).toNat
theorem rfL_eq (l:List UInt8):(rfL l=none∧decodeL l=(65533,1))∨(rfL l=some (decodeL l)∧decodeL l≠(65533,1)):=by
 rw[decodeL_N];exact rfN_eq _ _ _ _ _ (fJ _) (fJ _) (fJ _) (fJ _)
def cntF:Nat->List UInt8->Option Nat
 |0,_=>some 0
 | f+1,l=>if l=[] then some 0 else match rfL l with
  |none=>none
  |some (_,k)=>match cntF f (l.drop k) with
   |none=>none
   |some m=>some (m+1)
theorem je {l:List UInt8} {c k:Nat} (hl:l≠[]) (h:rfL l=some (c,k)):1<=k∧k<=l.length:=by
 rcases rfL_eq l with⟨h1,_⟩|⟨h1,_⟩
 ·rw[h1] at h;cases h
 ·rw[h1] at h;injection h with h;have:=decodeL_width l;have h2:=decodeL_le l hl;rw[h] at this h2;exact⟨this,h2⟩
theorem cntF_fuel:∀(n m:Nat) (l:List UInt8),l.length<=n->l.length<=m->cntF n l=cntF m l
 |0,m,l,hn,_=>by
  obtain rfl:=bR (Nat.le_zero.1 hn)
  cases m<;>simp[cntF]
 |n+1,0,l,_,hm=>by
  obtain rfl:=bR (Nat.le_zero.1 hm)
  simp[cntF]
 | n+1,m+1,l,hn,hm=>by
  simp only[cntF]
  by_cases hl:l=[]
  ·rw[aJ hl,aJ hl]
  ·rw[aC hl,aC hl]
   cases h:rfL l with
   |none=>rfl
   |some p=>
    obtain⟨c,k⟩:=p
    have:=je hl h
    simp only
    rw[cntF_fuel n m (l.drop k) (by rw[bI];omega) (by rw[bI];omega)]
def cnt (l:List UInt8):Option Nat:=cntF l.length l
theorem cnt_nil:cnt []=some 0:=rfl
theorem cnt_step {l:List UInt8} (hl:l≠[]):cnt l=match rfL l with
  |none=>none
  |some (_,k)=>match cnt (l.drop k) with
   |none=>none
   |some m=>some (m+1):=by
 have hp:0<l.length:=List.length_pos_iff.2 hl;obtain⟨n,hn⟩:∃n,l.length=n+1:=⟨l.length-1,by omega⟩;unfold cnt;rw[hn];simp only[cntF,aC hl];cases h:rfL l with
 |none=>rfl
 |some p=>
  obtain⟨c,k⟩:=p;have:=je hl h;simp only;rw[cntF_fuel n (l.drop k).length (l.drop k) (by rw[bI];omega) (by omega)]
theorem decode_drop (s:ByteArray) (pos:Nat):Utf8.decode s pos=decodeL (s.data.toList.drop pos):=by
 rw[decode_at,decodeL_N];have hl:s.data.toList.length=s.size:=by simp
 have g:∀i,(s.get! (pos+i))=(s.data.toList.drop pos).getD i 0:=λi=>by
  rw[ae,jC];cases s with
  |mk d=>
   show d[pos+i]! =_;rw[getElem!_def,<-dz];cases d.toList[pos+i]? <;>rfl
 rw[<-g 0,<-g 1,<-g 2,<-g 3,bI,hl];rfl
theorem cnt_lib (s:ByteArray):∀(f pos:Nat),pos<=s.size->s.size-pos<=f->
  (validD (s.data.toList.drop pos)=(cnt (s.data.toList.drop pos)).isSome)∧∀m,cnt (s.data.toList.drop pos)=some m->runeCountFrom s f pos=m
 | f, pos,hp,hf=>by
  have hl:s.data.toList.length=s.size:=by simp
  by_cases he:pos=s.size
  ·have e:s.data.toList.drop pos=[]:=List.drop_of_length_le (by omega)
   rw[e,cnt_nil]
   refine⟨validD_nil,λm hm=> ?_⟩
   injection hm with hm
   subst hm
   exact runeCountFrom_end s f pos (by omega)
  ·have hne:s.data.toList.drop pos≠[]:=λe=>by
    have:=congrArg List.length e
    rw[bI,hl] at this
    simp at this;omega
   cases f with
   |zero=>omega
   |succ f=>
   rw[validD_step _ hne,cnt_step hne]
   have hd:=decode_drop s pos
   rcases rfL_eq (s.data.toList.drop pos) with⟨h1,h2⟩|⟨h1,h2⟩
   ·rw[h1,h2]
    exact⟨rfl,λm hm=>by cases hm⟩
   ·rw[h1]
    have hk:1<=(decodeL (s.data.toList.drop pos)).2∧(decodeL (s.data.toList.drop pos)).2<=s.size-pos:=by
     have h3:=je hne h1;rwa[bI,hl] at h3
    have ih:=cnt_lib s f (pos+(decodeL (s.data.toList.drop pos)).2) (by omega) (by omega);rw[<-List.drop_drop] at ih;have hnb:¬((decodeL (s.data.toList.drop pos)).1=65533∧(decodeL (s.data.toList.drop pos)).2=1):=λh=>h2 (Prod.ext h.1 h.2);rw[aC hnb,ih.1];simp only;refine⟨?_,λm hm=> ?_⟩
    ·cases cnt (List.drop (decodeL (s.data.toList.drop pos)).2 (s.data.toList.drop pos))<;>rfl
    ·cases hc:cnt (List.drop (decodeL (s.data.toList.drop pos)).2 (s.data.toList.drop pos)) with
     |none=>rw[hc] at hm;cases hm
     |some q=>
      rw[hc] at hm;injection hm with hm;have h3:=ih.2 q hc;unfold runeCountFrom;rw[aJ (by omega),hd,h3];omega
theorem jj (s:ByteArray):validD s.data.toList=(cnt s.data.toList).isSome:=by
 have:=(cnt_lib s s.size 0 (by omega) (by omega)).1;simpa using this
theorem jk {s:ByteArray} {m:Nat} (h:cnt s.data.toList=some m):runeCount s=m:=by
 have:=(cnt_lib s s.size 0 (by omega) (by omega)).2 m;simp only[List.drop_zero] at this;exact this h
end
section
open Go.RowKit Go.Lib Go.Sort Go.Shelf
def signsL:List UInt8:=[48,49,50,51,52,53,54,55,56,57,65,66,67,68,69,70,71,72,73,74,75,76,77,78,79,80,81,82,83,84,85,86,87,88,89,90,97,98,99,100,101,102,103,104,105,106,107,108,109,110,111,112,113,114,115,116,117,118,119,120,121,122,46,45,95]
theorem signs_all:∀n:Fin 256,signsL.contains (UInt8.ofNat n.val)=signB (UInt8.ofNat n.val):=by decide +kernel
theorem signs_sign (b:UInt8):signsL.contains b=signB b:=by
 have h:=signs_all ⟨b.toNat,b.toNat_lt⟩;have e:UInt8.ofNat b.toNat=b:=by simp
 simp only[e] at h;exact h
theorem jQ {α:Type} (p:α->Bool):∀l:List α,l.dropWhile p=[]↔∀b∈l,p b=true
 | []=>by simp
 | a::l=>by
  rw[List.dropWhile_cons]
  by_cases h:p a=true
  ·rw[aJ h,jQ p l]
   simp[h]
  ·rw[aC h]
   simp[h]
theorem trimS_nil (l:List UInt8):trimS l signsL=[]↔l.all signB=true:=by
 unfold trimS trimLeftS trimRightS;rw[jQ,dJ];constructor
 ·intro h b hb;by_cases hd:l.reverse.dropWhile (signsL.contains ·)=[]
  ·have:=(jQ _ _).1 hd b (List.mem_reverse.2 hb);rw[signs_sign] at this;exact this
  ·exfalso;have h1:=List.head_dropWhile_not (signsL.contains ·) (l:=l.reverse) hd;have h2:=h ((l.reverse.dropWhile (signsL.contains ·)).head hd) (List.mem_reverse.2 (List.head_mem hd));rw[h2] at h1;cases h1
 ·intro h b hb;rw[signs_sign];refine h b ?_;have:=List.mem_reverse.1 hb;exact List.mem_reverse.1 ((List.dropWhile_sublist _).subset this)
theorem trim_any (s c:ByteArray) (w:World) (hs:s.size<=9223372036854775807) (hc:c.data.toList=signsL):
  Calls Tryz.prog 186 #[s,c] w λe w'=>e= .returned (.string ⟨(trimS s.data.toList signsL).toArray⟩)∧Below w.heap.size w w':=by
 rw[<-hc];refine Any.strings_Trim_laid Tryz.lays160 (by kernel_rfl) s c w hs ?_ ?_
 ·have h1:c.data.toList.length=c.size:=by simp
  rw[<-h1,hc];decide
 ·rw[hc];exact ascii_of_all (by decide)
theorem str_nil {s:ByteArray}:s.toList=s.data.toList:=eS s
theorem name_any (s:ByteArray) (w:World) (hs:s.size<=9223372036854775807):
  Calls Tryz.prog 152 #[s] w λe w'=>e= .returned (.bool (ek s))∧Below w.heap.size w w':=by
 obtain⟨ans,ha⟩:∃v,v=ek s:=⟨_,rfl⟩;have hv:ans=ek s:=ha;rw[<-ha];have HV:=hid ha;clear ha hv;by_cases h0:s.data.toList=[]
 ·obtain rfl:ans=false:=by rw[HV.out];simp[ek,h0]
  obtain rfl:=gm.1 h0;go_enter Tryz.func152,Tryz.ntmps152;go_wp2;go_ret;exact⟨rfl,ag _ _⟩
 have t0:s.toList.isEmpty=false:=by
  rw[str_nil];cases e:s.data.toList with
  |nil=>exact absurd e h0
  |cons a l=>rfl
 by_cases h1:s.size<=32
 ·have t1:(s.size:Int)<=32:=by omega
  by_cases h2:s.data.toList=[46]
  ·obtain rfl:ans=false:=by rw[HV.out];simp[ek,h2]
   obtain rfl:s=⟨#[46]⟩:=fD (eH.1 h2);go_enter Tryz.func152,Tryz.ntmps152;go_wp2;go_ret;exact⟨rfl,ag _ _⟩
  have t2:(s.toList == [46])=false:=by rw[str_nil];simp[h2]
  by_cases h3:s.data.toList=[46,46]
  ·obtain rfl:ans=false:=by rw[HV.out];simp[ek,h3]
   obtain rfl:s=⟨#[46,46]⟩:=fD (eH.1 h3);go_enter Tryz.func152,Tryz.ntmps152;go_wp2;go_ret;exact⟨rfl,ag _ _⟩
  have t3:(s.toList == [46,46])=false:=by rw[str_nil];simp[h3]
  by_cases h4:s.data.toList.all signB=true
  ·obtain rfl:ans=true:=by rw[HV.out];simp only[ek,h4];simp[h0,h1,h2,h3]
   have hT:=λc w hc=>trim_any s c w hs hc;rw[(trimS_nil _).2 h4] at hT;have HT:=hid hT;clear h0 h1 h2 h3 h4 hT;go_enter Tryz.func152,Tryz.ntmps152;go_wp2_with fail;refine(HT.out _ _ (by rfl)).mono ?_;rintro e w1 ⟨rfl,hB⟩;go_wp2;go_ret;exact⟨rfl,hB⟩
  ·obtain rfl:ans=false:=by rw[HV.out];simp only[ek,h4];simp
   have hT:=λc w hc=>trim_any s c w hs hc;obtain⟨T,hTe⟩:∃T:ByteArray,T=⟨(trimS s.data.toList signsL).toArray⟩:=⟨_,rfl⟩;have t4:T.toList.isEmpty=false:=by
    rw[str_nil,hTe];have:=mt (trimS_nil s.data.toList).1 h4;simp[this]
   have t5:(T.toList == [])=false:=by
    rw[str_nil,hTe];have:=mt (trimS_nil s.data.toList).1 h4;simp[this]
   rw[<-hTe] at hT;have HT:=hid hT;clear h0 h1 h2 h3 h4 hT hTe;go_enter Tryz.func152,Tryz.ntmps152;go_wp2_with fail;refine(HT.out _ _ (by rfl)).mono ?_;rintro e w1 ⟨rfl,hB⟩;go_wp2;go_ret;exact⟨rfl,hB⟩
 ·have t1:¬(s.size:Int)<=32:=by omega
  obtain rfl:ans=false:=by rw[HV.out];simp[ek,h1]
  go_enter Tryz.func152,Tryz.ntmps152;go_wp2;go_ret;exact⟨rfl,ag _ _⟩
def Tabs (w:World):Prop:=Lib.Utf8Tabs (Tryz.lays196_ren.g 3) (Tryz.lays196_ren.g 4) w
theorem Tabs.below {w w':World} (h:Tabs w) (hb:Below w.heap.size w w'):Tabs w':=Utf8Tabs_below h hb
theorem valid_any (s:ByteArray) (w:World) (hs:s.size<=9223372036854775807) (hT:Tabs w):
  Calls Tryz.prog 188 #[s] w λe w'=>e= .returned (.bool (validD s.data.toList))∧Below w.heap.size w w':=
 Any.utf8_ValidString Tryz.lays196 s w hs hT
theorem count_any (s:ByteArray) (w:World) (hs:s.size<9223372036854775807):
  Calls Tryz.prog 189 #[s] w λe w'=>e= .returned (.int .i64 (runeCount s))∧Below w.heap.size w w':=
 (Any.utf8_RuneCountInString Tryz.lays195 s w hs).mono λe w' ⟨he,pos,hw⟩=>⟨he,by rw[hw];exact(ag _ _).alloc (aa _) _⟩
theorem len_bad (s:ByteArray) (w:World) (hs:s.size<9223372036854775807) (hT:Tabs w) (h:cnt s.data.toList=none):
  Calls Tryz.prog 155 #[s] w λe w'=>e= .returned (.tuple #[(0:Int),(60:Int)])∧Below w.heap.size w w':=by
 have hv:=valid_any s w (by omega) hT;rw[jj,h] at hv;have HV:=hid hv;clear hv h hT;go_enter Tryz.func155,Tryz.ntmps155;go_wp2_with fail;refine HV.out.mono ?_;rintro e w1 ⟨rfl,hB⟩;go_wp2;go_ret2;exact⟨rfl,hB⟩
theorem len_ok (s:ByteArray) (m:Nat) (w:World) (hs:s.size<9223372036854775807) (hT:Tabs w) (h:cnt s.data.toList=some m):
  Calls Tryz.prog 155 #[s] w λe w'=>e= .returned (.tuple #[.int .i64 m,(0:Int)])∧Below w.heap.size w w':=by
 have hv:=valid_any s w (by omega) hT;rw[jj,h] at hv;have hc:=λw=>count_any s w hs;rw[jk h] at hc;have HV:=hid hv;have HC:=hid hc;clear hv hc h hT;go_enter Tryz.func155,Tryz.ntmps155;go_wp2_with fail;refine HV.out.mono ?_;rintro e w1 ⟨rfl,hB⟩;go_wp2_with fail;refine(HC.out _).mono ?_;rintro e w2 ⟨rfl,hB2⟩;go_wp2;go_ret2;exact⟨rfl,bt hB hB2⟩
end
end Go.Proofs.YtkhmicndehlneaaGreatDoor
