/- Part 3 of the walks and plain laws that this claim uses, joined. Conditions: as each theorem states. -/
import Derived.Outline
import Derived.Test.YtkhmicndehlneaaGreatDoorYtb
namespace Go.Proofs.YtkhmicndehlneaaGreatDoor
set_option maxRecDepth 100000
set_option maxHeartbeats 16000000
section
section
open Go.RowKit Go.Lib Go.Sort
set_option linter.unusedVariables false
attribute [local go_sem ↓] Go.wp_at_zero Go.wp_at_succ
structure Chkr (w:World) (b:Nat) (g:Gst) (k:Nat):Prop where
 t:w.cell? ⟨b,0,none⟩=some (.int .i64 g.t)
 r:w.cell? ⟨b,1,none⟩=some (.int .i64 g.r)
 k:w.cell? ⟨b,7,none⟩=some (.int .i64 k)
theorem Chkr.lt {w:World} {b:Nat} {g:Gst} {k:Nat} (h:Chkr w b g k):b<w.heap.size:=lt_of_cell h.t
theorem Chkr.below {w w':World} {b:Nat} {g:Gst} {k:Nat} (h:Chkr w b g k) (hb:Below w.heap.size w w'):Chkr w' b g k:=
 ⟨(hb.cell (p:=⟨b,0,none⟩) h.lt).trans h.t,(hb.cell (p:=⟨b,1,none⟩) h.lt).trans h.r,(hb.cell (p:=⟨b,7,none⟩) h.lt).trans h.k⟩
theorem Chkr.alloc {w:World} {b:Nat} {g:Gst} {k:Nat} (h:Chkr w b g k) (o:Obj):Chkr (w.alloc o) b g k:=h.below ((Below.refl _ _).alloc (Nat.le_refl _) _)
theorem ornone_any (b:Nat) (g:Gst) (k:Nat) (x:Gid) (w:World) (hC:Chkr w b g k):
  Calls Tryz.prog 151 #[.pointer (some ⟨b,0,none⟩),idV x] w fun e w'=>e= .returned (.bool (parentB g x k))∧Below w.heap.size w w':=by
 obtain⟨⟨t,r⟩,i⟩:=x
 have HC:=hid hC
 clear hC
 show Calls _ _ #[_,.agg #[.int .i64 t,.int .i64 r,.int .i64 i]] _ _
 cases hN:Gid.eqb ⟨⟨t,r⟩,i⟩ ⟨⟨0,0⟩,0⟩ with
 |true=>
  have he:=eq_id t r i 0 0 0 true hN
  have HN:=hid hN
  clear hN
  go_enter Tryz.func151,Tryz.ntmps151
  go_wp2
  go_ret
  refine⟨ret_bool ?_,(Below.refl _ _).alloc (Nat.le_refl _) _⟩
  have:Gid.none ⟨⟨t,r⟩,i⟩=true:=HN.out
  simp[parentB,this]
 |false=>
  have he:=eq_id t r i 0 0 0 false hN
  have HN:=hid hN
  clear hN
  go_enter Tryz.func151,Tryz.ntmps151
  go_wp2_with fail
  refine(ahead_any b g k ⟨⟨t,r⟩,i⟩ _ (HC.out.alloc _).t (HC.out.alloc _).r (HC.out.alloc _).k).mono ?_
  rintro e w1 ⟨rfl,hB⟩
  go_wp2
  go_ret
  refine⟨ret_bool ?_,((Below.refl _ _).alloc (Nat.le_refl _) _).trans (hB.mono (by simp))⟩
  have:Gid.none ⟨⟨t,r⟩,i⟩=false:=HN.out
  simp[parentB,this]
theorem own_any (b:Nat) (g:Gst) (k:Nat) (w:World) (hC:Chkr w b g k):
  Calls Tryz.prog 150 #[.pointer (some ⟨b,0,none⟩)] w fun e w'=>e= .returned (idV ⟨g,k⟩)∧Below w.heap.size w w':=by
 obtain⟨t,r⟩:=g
 obtain⟨h0,h1,h7⟩:=hC
 simp only at h0 h1
 show Calls _ _ _ _ fun e w'=>e= .returned (.agg #[.int .i64 t,.int .i64 r,.int .i64 k])∧_
 have hb:=lt_of_cell h0
 go_enter Tryz.func150,Tryz.ntmps150
 have hf:w.frozen? ⟨b,0,none⟩=w.frozen? ⟨b,0,none⟩:=rfl
 go_wp2
 go_region_held3 (fun w'=>w'.cell? ⟨b,0,none⟩=some (.int .i64 t)∧w'.cell? ⟨b,1,none⟩=some (.int .i64 r)∧w'.cell? ⟨b,7,none⟩=some (.int .i64 k)) (go_keep) (fail)
 all_goals
  go_wp2
  refine bodyPost_ret (v:= .agg #[.int .i64 t,.int .i64 r,.int .i64 k]) (by simp[results,Tryz.results150,go_sem]) rfl ⟨rfl,?_⟩
  exact((Below.refl _ _).alloc (Nat.le_refl _) _).drew
theorem cdots_any (b:Nat) (g:Gst) (k:Nat) (A:Option Addr) (c:Nat) (l:List Gst) (S:Nat→Prop) (w:World) (hC:Chkr w b g k) (hl:l.length≤9223372036854775807) (hA:StsS w S A l):
  Calls Tryz.prog 154 #[.pointer (some ⟨b,0,none⟩),.slice A l.length c] w fun e w'=>e= .returned (.bool (dotsB g l))∧Below w.heap.size w w':=by
 have HC:=hid hC
 have HA:=hid hA
 obtain⟨n,hn⟩:∃n,n=l.length:=⟨_,rfl⟩
 obtain⟨ans,hans⟩:∃r,r=dotsB g l:=⟨_,rfl⟩
 rw[←hn] at hl ⊢
 rw[←hans]
 have HN:=hid hn
 have HV:=hid hans
 clear hC hA hn hans
 go_enter Tryz.func154,Tryz.ntmps154
 go_wp2
 go_loopw [9] (fun i wr=>∃k:Nat,k≤n∧i= .int .i64 k∧Hid (∀i,i<k→dotB g l i=true)∧Below w.heap.size w wr) (fun i _=>n-(RowKit.intOf i).toNat)
 case atStart=>exact⟨0,by omega,rfl,fun i hi=>absurd hi (by omega),Below.refl _ _⟩
 case round=>
  obtain⟨j,hj,rfl,HK,hBr⟩:=hrel
  by_cases hlt:j<n
  ·obtain⟨ab,ao,rfl,-,hab,c0,c1⟩:=StsS.at_ (RowG.agr HA.out (Agr.below hBr)) (k:=j) (by have:=HN.out;omega)
   obtain⟨x,hx⟩:∃x,x=l.getD j .zero:=⟨_,rfl⟩
   rw[←hx] at c0 c1
   have HX:=hid hx
   clear hx
   obtain⟨xt,xr⟩:=x
   obtain⟨gt,gr⟩:=g
   simp only at c0 c1
   have HC1:=HC.out.below hBr
   have kt:=cell_regrown (((HC1).alloc (.cells #[.int .i64 xt,.int .i64 xr] 42))).t
   have kr:=cell_regrown (((HC1).alloc (.cells #[.int .i64 xt,.int .i64 xr] 42))).r
   clear HC1
   simp only at kt kr
   have x0:=cell_regrown (w:=wr.alloc (.cells #[.int .i64 xt,.int .i64 xr] 42)) (a:=⟨wr.heap.size,0,none⟩) (v:= .int .i64 xt) (by go_simp)
   have x1:=cell_regrown (w:=wr.alloc (.cells #[.int .i64 xt,.int .i64 xr] 42)) (a:=⟨wr.heap.size,1,none⟩) (v:= .int .i64 xr) (by go_simp)
   have cR:=fun d os=>Calls.regrown_of (right_any xt xr (grow (redrawn (wr.alloc (.cells #[.int .i64 xt,.int .i64 xr] 42)) d) os))
   have cC:=fun d os=>Calls.regrown_of (cmp_any xt xr gt gr (grow (redrawn (wr.alloc (.cells #[.int .i64 xt,.int .i64 xr] 42)) d) os))
   have hc:=cmpS_gt ⟨xt,xr⟩ ⟨gt,gr⟩
   have bad:dotB ⟨gt,gr⟩ l j=false→ans=false:=fun h=>by
    rw[HV.out]
    unfold dotsB
    rw[allIx_false (by rw[←HN.out];exact hlt) h]
    rfl
   have HBad:=hid bad
   clear bad
   cases hR:Gst.right ⟨xt,xr⟩ with
   |false=>
    rw[hR] at cR
    obtain rfl:ans=false:=HBad.out (by unfold dotB;rw[←HX.out,hR];rfl)
    clear hR cC hc
    go_wp2
    refine rqb ?_
    repeat(any_goals(first|go_big_quiet_step (with_reducible exact cR _ _)|quiet_step (with_reducible exact cR _ _)))
    refine qz fun wq hBq=> ?_
    go_wp2
    go_ret
    exact⟨rfl,(hBr.alloc hBr.size _).trans (hBq.mono (by have:=hBr.size;simp;omega))⟩
   | true=>
    rw[hR] at cR
    have HR:=hid hR
    clear hR
    cases hG:Gst.lt ⟨gt,gr⟩ ⟨xt,xr⟩ with
    |true=>
     rw[hG] at hc
     obtain rfl:ans=false:=HBad.out (by unfold dotB;rw[←HX.out,hG,HR.out];rfl)
     clear hG
     go_wp2
     refine rqb ?_
     repeat(any_goals(first|go_big_quiet_step (with_reducible first|exact cR _ _|exact cC _ _)|quiet_step (with_reducible first|exact cR _ _|exact cC _ _)))
     refine qz fun wq hBq=> ?_
     go_wp2
     go_ret
     exact⟨rfl,(hBr.alloc hBr.size _).trans (hBq.mono (by have:=hBr.size;simp;omega))⟩
    | false=>
     rw[hG] at hc
     have HG:=hid hG
     clear hG
     by_cases hj0:j=0
     ·have b1:decide (0<j)=false:=by rw[decide_eq_false_iff_not];omega
      have HK2:Hid (∀i,i<j+1→dotB ⟨gt,gr⟩ l i=true):=fun i hi=>by
       obtain rfl:i=j:=by omega
       unfold dotB
       rw[←HX.out,HG.out,HR.out]
       simp[hj0]
      clear hj0
      go_wp2
      refine rqb ?_
      repeat(any_goals(first|go_big_quiet_step (with_reducible first|exact cR _ _|exact cC _ _)|quiet_step (with_reducible first|exact cR _ _|exact cC _ _)))
      refine qz fun wq hBq=> ?_
      go_wp2
      go_roundw
      case rel=>exact⟨j+1,by omega,by go_num,HK2,(hBr.alloc hBr.size _).trans (hBq.mono (by have:=hBr.size;simp;omega))⟩
      case measure=>simp[RowKit.intOf];omega
     ·obtain⟨m,hm⟩:∃m,m+1=j:=⟨j-1,by omega⟩
      obtain⟨ab2,ao2,e2,-,-,d0,d1⟩:=StsS.at_ (RowG.agr HA.out (Agr.below hBr)) (k:=m) (by have:=HN.out;omega)
      injection e2 with e2
      injection e2 with e3 e4
      subst e3 e4
      obtain⟨y,hy⟩:∃y,y=l.getD m .zero:=⟨_,rfl⟩
      rw[←hy] at d0 d1
      have HY:=hid hy
      clear hy
      obtain⟨yt,yr⟩:=y
      simp only at d0 d1
      have y0:=cell_regrown (w:=(wr.alloc (.cells #[.int .i64 xt,.int .i64 xr] 42))) (a:=⟨ab,ao+m*2,none⟩) (v:= .int .i64 yt) (by rw[World.cell?_alloc_lt _ _ _ hab];exact d0)
      have y1:=cell_regrown (w:=(wr.alloc (.cells #[.int .i64 xt,.int .i64 xr] 42))) (a:=⟨ab,ao+m*2+1,none⟩) (v:= .int .i64 yr) (by rw[World.cell?_alloc_lt _ _ _ hab];exact d1)
      have cD:=fun d os=>Calls.regrown_of (cmp_any yt yr xt xr (grow (redrawn (wr.alloc (.cells #[.int .i64 xt,.int .i64 xr] 42)) d) os))
      have hd:=cmpS_ge ⟨yt,yr⟩ ⟨xt,xr⟩
      have b1:decide (0<j)=true:=by rw[decide_eq_true_eq];omega
      have b2:(j:Int)-1=(m:Int):=by omega
      have b3:(0:Int)≤(m:Int):=by omega
      have b4:(m:Int)<(n:Int):=by omega
      have b5:IntKind.i64.wrap ((j:Int)-1)=(m:Int):=by rw[b2];exact IntWalk.i64_in _ (by omega)
      have b6:m=j-1:=by omega
      have HM:=hid b6
      clear b6 hm hj0
      cases hL:Gst.lt ⟨yt,yr⟩ ⟨xt,xr⟩ with
      | false=>
       rw[hL] at hd
       obtain rfl:ans=false:=HBad.out (by
        unfold dotB
        rw[←HX.out,HG.out,HR.out,←HM.out,←HY.out,hL]
        simp;have:=HM.out;omega)
       clear hL
       go_wp2
       refine rqb ?_
       repeat(any_goals(first|go_big_quiet_step (with_reducible first|exact cR _ _|exact cC _ _|exact cD _ _)|quiet_step (with_reducible first|exact cR _ _|exact cC _ _|exact cD _ _)))
       refine qz fun wq hBq=> ?_
       go_wp2
       go_ret
       exact⟨rfl,(hBr.alloc hBr.size _).trans (hBq.mono (by have:=hBr.size;simp;omega))⟩
      | true=>
       rw[hL] at hd
       have HK2:Hid (∀i,i<j+1→dotB ⟨gt,gr⟩ l i=true):=fun i hi=>by
        rcases Nat.lt_or_ge i j with h|h
        ·exact HK.out i h
        ·obtain rfl:i=j:=by omega
         unfold dotB
         rw[←HX.out,HG.out,HR.out,←HM.out,←HY.out,hL]
         simp
       clear hL
       go_wp2
       refine rqb ?_
       repeat(any_goals(first|go_big_quiet_step (with_reducible first|exact cR _ _|exact cC _ _|exact cD _ _)|quiet_step (with_reducible first|exact cR _ _|exact cC _ _|exact cD _ _)))
       refine qz fun wq hBq=> ?_
       clear b5
       go_wp2
       go_roundw
       case rel=>exact⟨j+1,by omega,by go_num,HK2,(hBr.alloc hBr.size _).trans (hBq.mono (by have:=hBr.size;simp;omega))⟩
       case measure=>simp[RowKit.intOf];omega
  ·obtain rfl:j=n:=by omega
   have hv:ans=decide (j≤200):=by
    rw[HV.out]
    unfold dotsB
    rw[allIx_true (fun i hi=>HK.out i (by have:=HN.out;omega)),←HN.out]
    rfl
   by_cases h2:j≤200
   ·obtain rfl:ans=true:=by rw[hv];exact decide_eq_true h2
    have t1:(j:Int)≤200:=by omega
    clear hv
    go_wp2
    go_ret
    exact⟨rfl,hBr⟩
   ·obtain rfl:ans=false:=by rw[hv];exact decide_eq_false h2
    have t1:¬(j:Int)≤200:=by omega
    clear hv
    go_wp2
    go_ret
    exact⟨rfl,hBr⟩
end
section
open Go.RowKit Go.Lib Go.Sort
set_option linter.unusedVariables false
attribute [local go_sem ↓] Go.wp_at_zero Go.wp_at_succ
def cmpD (a b:Gid):Int:=orI (cmpS a.s b.s) (cmpI a.i b.i)
theorem cmpS_zero (a b:Gst):cmpS a b=0↔a.eqb b=true:=by
 simp only[cmpS,orI,cmpI,Gst.eqb,Bool.and_eq_true,decide_eq_true_eq]
 repeat' split
 all_goals omega
theorem cmpI_lt (a b:Int):cmpI a b<0↔a<b:=by
 unfold cmpI
 repeat' split
 all_goals omega
theorem cmpD_lt (a b:Gid):decide (cmpD a b<0)=a.lt b:=by
 rw[Bool.eq_iff_iff,decide_eq_true_eq]
 have h1:=cmpI_lt a.i b.i
 have h2:cmpS a.s b.s<0↔a.s.lt b.s=true:=by rw[←cmpS_lt];simp
 have h3:=cmpS_zero a.s b.s
 unfold cmpD orI
 simp only[Gid.lt,Bool.or_eq_true,Bool.and_eq_true,decide_eq_true_eq,←h2,←h3]
 split<;>omega
theorem cmpD_ge (a b:Gid):decide (0≤cmpD a b)= !a.lt b:=by
 rw[←cmpD_lt,Bool.eq_iff_iff];simp
theorem or_blk (b:Nat) (x y:Int) (T:TypeId) (W:World) (hb:W.heap[b]? =some (.cells #[.int .i64 x,.int .i64 y] T (0,0))):
  Calls Tryz.prog 147 #[.slice (some ⟨b,0,none⟩) 2 2] W fun e w'=>e= .returned (.int .i64 (orI x y))∧w'=W:=
 or_any _ _ _ _ (by rw[crw hb];rfl) (by rw[crw hb];rfl)
theorem cmpid_any (t r i t' r' i':Int) (w:World):
  Calls Tryz.prog 190 #[.agg #[.int .i64 t,.int .i64 r,.int .i64 i],.agg #[.int .i64 t',.int .i64 r',.int .i64 i']] w fun e w'=>e= .returned (.int .i64 (cmpD ⟨⟨t,r⟩,i⟩ ⟨⟨t',r'⟩,i'⟩))∧Below w.heap.size w w':=by
 go_enter Tryz.func190,Tryz.ntmps190
 go_wp2
 generalize hW:(w.alloc (.cells #[.int .i64 t,.int .i64 r,.int .i64 i] 108)).alloc (.cells #[.int .i64 t',.int .i64 r',.int .i64 i'] 108)=W
 have hs:w.heap.size+2=W.heap.size:=by subst hW;simp
 have a0:W.cell? ⟨w.heap.size,0,none⟩=some (.int .i64 t):=by subst hW;go_simp
 have a1:W.cell? ⟨w.heap.size,1,none⟩=some (.int .i64 r):=by subst hW;go_simp
 have a2:W.cell? ⟨w.heap.size,2,none⟩=some (.int .i64 i):=by subst hW;go_simp
 have b0:W.cell? ⟨w.heap.size+1,0,none⟩=some (.int .i64 t'):=by subst hW;go_simp
 have b1:W.cell? ⟨w.heap.size+1,1,none⟩=some (.int .i64 r'):=by subst hW;go_simp
 have b2:W.cell? ⟨w.heap.size+1,2,none⟩=some (.int .i64 i'):=by subst hW;go_simp
 have hBW:Below w.heap.size w W:=by subst hW;exact((Below.refl _ _).alloc (Nat.le_refl _) _).alloc (by simp) _
 have HS:=hid hs
 have l0:=lt_of_cell a0
 have l1:=lt_of_cell b0
 clear hW hs
 go_region_held3 (fun w'=>w'.cell? ⟨w.heap.size,0,none⟩=some (.int .i64 t)∧w'.cell? ⟨w.heap.size,1,none⟩=some (.int .i64 r)∧w'.cell? ⟨w.heap.size,2,none⟩=some (.int .i64 i)∧w'.cell? ⟨w.heap.size+1,0,none⟩=some (.int .i64 t')∧w'.cell? ⟨w.heap.size+1,1,none⟩=some (.int .i64 r')∧w'.cell? ⟨w.heap.size+1,2,none⟩=some (.int .i64 i')) (first|go_keep|(refine⟨?_,?_,?_,?_,?_,?_⟩<;>(rw[hB1.cell (by simpa using(by assumption))];assumption))) (first
  |(go_at_call 93;refine(cmp_any _ _ _ _ _).mono ?_;rintro e w1 ⟨rfl,hB1⟩)
  |(go_at_call 148;refine(compare_any _ _ _).mono ?_;rintro e w1 ⟨rfl,rfl⟩)
  |(go_at_call 147;refine(or_blk _ _ _ _ _ (by exact heap_alloc_new _ _)).mono ?_;rintro e w1 ⟨rfl,rfl⟩))
 all_goals
  go_wp2
  go_ret
  have h9:W.heap.size≤w1.heap.size:=hB1.size
  exact⟨rfl,(hBW.drew.trans (hB1.mono (show w.heap.size≤W.heap.size by omega))).alloc (by omega) _⟩
theorem celems_any (b:Nat) (g:Gst) (k:Nat) (A:Option Addr) (c:Nat) (l:List Gid) (S:Nat→Prop) (w:World) (hC:Chkr w b g k) (hl:l.length≤9223372036854775807) (hA:IdsS w S A l):
  Calls Tryz.prog 156 #[.pointer (some ⟨b,0,none⟩),.slice A l.length c] w fun e w'=>e= .returned (.bool (elemsB g l k))∧Below w.heap.size w w':=by
 have HC:=hid hC
 have HA:=hid hA
 obtain⟨n,hn⟩:∃n,n=l.length:=⟨_,rfl⟩
 obtain⟨ans,hans⟩:∃r,r=elemsB g l k:=⟨_,rfl⟩
 rw[←hn] at hl ⊢
 rw[←hans]
 have HN:=hid hn
 have HV:=hid hans
 clear hC hA hn hans
 go_enter Tryz.func156,Tryz.ntmps156
 go_wp2
 go_loopw [9] (fun i wr=>∃j:Nat,j≤n∧i= .int .i64 j∧Hid (∀i,i<j→elemB g l k i=true)∧Below w.heap.size w wr) (fun i _=>n-(RowKit.intOf i).toNat)
 case atStart=>exact⟨0,by omega,rfl,fun i hi=>absurd hi (by omega),Below.refl _ _⟩
 case round=>
  obtain⟨j,hj,rfl,HK,hBr⟩:=hrel
  by_cases hlt:j<n
  ·obtain⟨ab,ao,rfl,-,hab,c0,c1,c2⟩:=IdsS.at_ (RowG.agr HA.out (Agr.below hBr)) (k:=j) (by have:=HN.out;omega)
   obtain⟨x,hx⟩:∃x,x=l.getD j .zero:=⟨_,rfl⟩
   rw[←hx] at c0 c1 c2
   have HX:=hid hx
   clear hx
   obtain⟨⟨xt,xr⟩,xi⟩:=x
   simp only at c0 c1 c2
   have x0:=cell_regrown (w:=(wr.alloc (.cells #[.int .i64 xt,.int .i64 xr,.int .i64 xi] 108))) (a:=⟨wr.heap.size,0,none⟩) (v:= .int .i64 xt) (by go_simp)
   have x1:=cell_regrown (w:=(wr.alloc (.cells #[.int .i64 xt,.int .i64 xr,.int .i64 xi] 108))) (a:=⟨wr.heap.size,1,none⟩) (v:= .int .i64 xr) (by go_simp)
   have x2:=cell_regrown (w:=(wr.alloc (.cells #[.int .i64 xt,.int .i64 xr,.int .i64 xi] 108))) (a:=⟨wr.heap.size,2,none⟩) (v:= .int .i64 xi) (by go_simp)
   have HCr:=HC.out.below hBr
   have cA:∀d os,Calls Tryz.prog 153 #[.pointer (some ⟨b,0,none⟩),.agg #[.int .i64 xt,.int .i64 xr,.int .i64 xi]] (grow (redrawn (wr.alloc (.cells #[.int .i64 xt,.int .i64 xr,.int .i64 xi] 108)) d) os) fun e w''=>e= .returned (.bool (aheadB g ⟨⟨xt,xr⟩,xi⟩ k))∧∃p:Regrown,w''=grow (redrawn (wr.alloc (.cells #[.int .i64 xt,.int .i64 xr,.int .i64 xi] 108)) p.d) p.os:=fun d os=>
    Calls.regrown_of (ahead_any b g k ⟨⟨xt,xr⟩,xi⟩ _ (cell_regrown (HCr.alloc _).t d os) (cell_regrown (HCr.alloc _).r d os) (cell_regrown (HCr.alloc _).k d os))
   clear HCr
   have bad:elemB g l k j=false→ans=false:=fun h=>by
    rw[HV.out]
    unfold elemsB
    rw[allIx_false (by rw[←HN.out];exact hlt) h]
    rfl
   have HBad:=hid bad
   clear bad
   cases hR:aheadB g ⟨⟨xt,xr⟩,xi⟩ k with
   |false=>
    rw[hR] at cA
    obtain rfl:ans=false:=HBad.out (by unfold elemB;rw[←HX.out,hR];rfl)
    clear hR
    go_wp2
    refine rqb ?_
    repeat(any_goals(first|go_big_quiet_step (with_reducible exact cA _ _)|quiet_step (with_reducible exact cA _ _)))
    refine qz fun wq hBq=> ?_
    go_wp2
    go_ret
    exact⟨rfl,(hBr.alloc hBr.size _).trans (hBq.mono (by have:=hBr.size;simp;omega))⟩
   | true=>
    rw[hR] at cA
    have HR:=hid hR
    clear hR
    by_cases hj0:j=0
    ·have b1:decide (0<j)=false:=by rw[decide_eq_false_iff_not];omega
     have HK2:Hid (∀i,i<j+1→elemB g l k i=true):=fun i hi=>by
      obtain rfl:i=j:=by omega
      unfold elemB
      rw[←HX.out,HR.out]
      simp[hj0]
     clear hj0
     go_wp2
     refine rqb ?_
     repeat(any_goals(first|go_big_quiet_step (with_reducible exact cA _ _)|quiet_step (with_reducible exact cA _ _)))
     refine qz fun wq hBq=> ?_
     go_wp2
     go_roundw
     case rel=>exact⟨j+1,by omega,by go_num,HK2,(hBr.alloc hBr.size _).trans (hBq.mono (by have:=hBr.size;simp;omega))⟩
     case measure=>simp[RowKit.intOf];omega
    ·obtain⟨m,hm⟩:∃m,m+1=j:=⟨j-1,by omega⟩
     obtain⟨ab2,ao2,e2,-,-,d0,d1,d2⟩:=IdsS.at_ (RowG.agr HA.out (Agr.below hBr)) (k:=m) (by have:=HN.out;omega)
     injection e2 with e2
     injection e2 with e3 e4
     subst e3 e4
     obtain⟨y,hy⟩:∃y,y=l.getD m .zero:=⟨_,rfl⟩
     rw[←hy] at d0 d1 d2
     have HY:=hid hy
     clear hy
     obtain⟨⟨yt,yr⟩,yi⟩:=y
     simp only at d0 d1 d2
     have y0:=cell_regrown (w:=(wr.alloc (.cells #[.int .i64 xt,.int .i64 xr,.int .i64 xi] 108))) (a:=⟨ab,ao+m*3,none⟩) (v:= .int .i64 yt) (by rw[World.cell?_alloc_lt _ _ _ hab];exact d0)
     have y1:=cell_regrown (w:=(wr.alloc (.cells #[.int .i64 xt,.int .i64 xr,.int .i64 xi] 108))) (a:=⟨ab,ao+m*3+1,none⟩) (v:= .int .i64 yr) (by rw[World.cell?_alloc_lt _ _ _ hab];exact d1)
     have y2:=cell_regrown (w:=(wr.alloc (.cells #[.int .i64 xt,.int .i64 xr,.int .i64 xi] 108))) (a:=⟨ab,ao+m*3+2,none⟩) (v:= .int .i64 yi) (by rw[World.cell?_alloc_lt _ _ _ hab];exact d2)
     have cD:=fun d os=>Calls.regrown_of (cmpid_any yt yr yi xt xr xi (grow (redrawn (wr.alloc (.cells #[.int .i64 xt,.int .i64 xr,.int .i64 xi] 108)) d) os))
     have hd:=cmpD_ge ⟨⟨yt,yr⟩,yi⟩ ⟨⟨xt,xr⟩,xi⟩
     have b1:decide (0<j)=true:=by rw[decide_eq_true_eq];omega
     have b2:(j:Int)-1=(m:Int):=by omega
     have b3:(0:Int)≤(m:Int):=by omega
     have b4:(m:Int)<(n:Int):=by omega
     have b5:IntKind.i64.wrap ((j:Int)-1)=(m:Int):=by rw[b2];exact IntWalk.i64_in _ (by omega)
     have b6:m=j-1:=by omega
     have HM:=hid b6
     clear b6 hm hj0
     cases hL:Gid.lt ⟨⟨yt,yr⟩,yi⟩ ⟨⟨xt,xr⟩,xi⟩ with
     | false=>
      rw[hL] at hd
      obtain rfl:ans=false:=HBad.out (by
       unfold elemB
       rw[←HX.out,HR.out,←HM.out,←HY.out,hL]
       have:¬j=0:=fun e=>by rw[e] at b1;simp at b1
       simp[this])
      clear hL
      go_wp2
      refine rqb ?_
      repeat(any_goals(first|go_big_quiet_step (with_reducible first|exact cA _ _|exact cD _ _)|quiet_step (with_reducible first|exact cA _ _|exact cD _ _)))
      refine qz fun wq hBq=> ?_
      go_wp2
      go_ret
      exact⟨rfl,(hBr.alloc hBr.size _).trans (hBq.mono (by have:=hBr.size;simp;omega))⟩
     | true=>
      rw[hL] at hd
      have HK2:Hid (∀i,i<j+1→elemB g l k i=true):=fun i hi=>by
       rcases Nat.lt_or_ge i j with h|h
       ·exact HK.out i h
       ·obtain rfl:i=j:=by omega
        unfold elemB
        rw[←HX.out,HR.out,←HM.out,←HY.out,hL]
        simp
      clear hL
      go_wp2
      refine rqb ?_
      repeat(any_goals(first|go_big_quiet_step (with_reducible first|exact cA _ _|exact cD _ _)|quiet_step (with_reducible first|exact cA _ _|exact cD _ _)))
      refine qz fun wq hBq=> ?_
      clear b5
      go_wp2
      go_roundw
      case rel=>exact⟨j+1,by omega,by go_num,HK2,(hBr.alloc hBr.size _).trans (hBq.mono (by have:=hBr.size;simp;omega))⟩
      case measure=>simp[RowKit.intOf];omega
  ·obtain rfl:j=n:=by omega
   have hv:ans=(decide (1≤j) && decide (j≤2000)):=by
    rw[HV.out]
    unfold elemsB
    rw[allIx_true (fun i hi=>HK.out i (by have:=HN.out;omega)),←HN.out]
    rfl
   by_cases h1:1≤j
   ·have t0:(1:Int)≤(j:Int):=by omega
    by_cases h2:j≤2000
    ·obtain rfl:ans=true:=by rw[hv];simp[h1,h2]
     have t1:(j:Int)≤2000:=by omega
     clear hv
     go_wp2
     go_ret
     exact⟨rfl,hBr⟩
    ·obtain rfl:ans=false:=by rw[hv];simp;omega
     have t1:¬(j:Int)≤2000:=by omega
     clear hv
     go_wp2
     go_ret
     exact⟨rfl,hBr⟩
   ·obtain rfl:ans=false:=by rw[hv];simp;omega
    have t1:¬(1:Int)≤(j:Int):=by omega
    clear hv
    go_wp2
    go_ret
    exact⟨rfl,hBr⟩
end
section
open Go.RowKit Go.Lib Go.Sort
set_option linter.unusedVariables false
theorem Calls.regrown_same {P:Program} {f:FuncId} {args:Array Value} {w:World} {d:Nat} {os:Array Obj} {v:Value}
  (h:Calls P f args (grow (redrawn w d) os) fun e w'=>e= .returned v∧w'=grow (redrawn w d) os):Calls P f args (grow (redrawn w d) os) fun e w''=>e= .returned v∧∃p:Regrown,w''=grow (redrawn w p.d) p.os:=
 h.mono fun _ _ ⟨he,hb⟩=>⟨he,⟨d,os⟩,hb⟩
theorem VecR.regrown {w:World} {A:Option Addr} {v:List Int} (h:VecR w A v) (d:Nat) (os:Array Obj):VecR (grow (redrawn w d) os) A v:=h.below (below_regrown w d os)
theorem head_any (g:Grp) (dA:Option Addr) (dc:Nat) (oA:Option Addr) (oc:Nat) (w:World) (hl:g.deps.length≤dc) (hc:dc≤9223372036854775807) (hn:i63 g.n) (hD:VecR w dA g.deps):
  Calls Tryz.prog 91 #[.agg (grA g dA dc oA oc)] w fun e w'=>e= .returned (.bool (headB g))∧Below w.heap.size w w':=by
 obtain⟨⟨t,r⟩,n,v,⟨ut,ur⟩,ops⟩:=g
 obtain⟨ans,ha⟩:∃a,a=headB ⟨⟨t,r⟩,n,v,⟨ut,ur⟩,ops⟩:=⟨_,rfl⟩
 rw[←ha]
 have HV:=hid ha
 clear ha
 unfold i63 at hn
 simp only at hl hn hD
 show Calls _ _ #[.agg #[.int .i64 t,.int .i64 r,.int .i64 n,.slice dA v.length dc,.int .i64 ut,.int .i64 ur,.slice oA ops.length oc]] _ _
 generalize ops.length=on
 obtain⟨W,hW⟩:∃W,W=w.alloc (.cells #[.int .i64 t,.int .i64 r,.int .i64 n,.slice dA v.length dc,.int .i64 ut,.int .i64 ur,.slice oA on oc] 45):=⟨_,rfl⟩
 have hBW:Below w.heap.size w W:=by subst hW;exact(Below.refl _ _).alloc (Nat.le_refl _) _
 have hD2:=hD.below hBW
 have hA:W.heap[w.heap.size]? =some (.cells #[.int .i64 t,.int .i64 r,.int .i64 n,.slice dA v.length dc,.int .i64 ut,.int .i64 ur,.slice oA on oc] 45 (0,0)):=by subst hW;exact heap_alloc_new _ _
 have x0:=rg0 hA
 have x1:=rg1 hA
 have x2:=rg2 hA
 have x3:=rg3 hA
 have cR:=fun d os=>Calls.regrown_of (right_any t r (grow (redrawn W d) os))
 have cV:=fun d os=>Calls.regrown_same (vector_any dA dc v (grow (redrawn W d) os) hl (by omega) (hD2.regrown d os))
 have cA:=fun d os=>Calls.regrown_same (at_any dA dc v r (grow (redrawn W d) os) (by omega) (hD2.regrown d os))
 have hlv:v.length≤9223372036854775807:=by omega
 have HW:=hid hW
 clear hA hD hD2
 cases hR:Gst.right ⟨t,r⟩ with
 |false=>
  rw[hR] at cR
  obtain rfl:ans=false:=by rw[HV.out];simp[headB,hR]
  clear hR cV cA hW
  go_enter Tryz.func91,Tryz.ntmps91
  go_wp2
  rw[←HW.out]
  refine rqb ?_
  repeat(any_goals(first|go_big_quiet_step (with_reducible exact cR _ _)|quiet_step (with_reducible exact cR _ _)))
  refine qz fun wq hBq=> ?_
  go_wp2
  go_ret
  exact⟨rfl,hBW.trans (hBq.mono hBW.size)⟩
 |true=>
 rw[hR] at cR
 have HR:=hid hR
 clear hR
 by_cases h1:1≤n
 ·by_cases h2:n≤1099511627776
  ·have hw:IntKind.i64.wrap (n-1)=n-1:=IntWalk.i64_in _ (by omega)
   cases hV:vecB v with
   |false=>
    rw[hV] at cV
    obtain rfl:ans=false:=by rw[HV.out];simp[headB,hV]
    clear hV cA hW hw
    go_enter Tryz.func91,Tryz.ntmps91
    go_wp2
    rw[←HW.out]
    refine rqb ?_
    repeat(any_goals(first|go_big_quiet_step (with_reducible first|exact cR _ _|exact cV _ _)|quiet_step (with_reducible first|exact cR _ _|exact cV _ _)))
    refine qz fun wq hBq=> ?_
    go_wp2
    go_ret
    exact⟨rfl,hBW.trans (hBq.mono hBW.size)⟩
   | true=>
    rw[hV] at cV
    have HVV:=hid hV
    have hv:ans=decide (atV v r=n-1):=by rw[HV.out];simp[headB,HR.out,HVV.out,h1,h2]
    generalize atV v r=a at *
    clear hV hW
    by_cases h3:a=n-1
    ·obtain rfl:ans=true:=by rw[hv];exact decide_eq_true h3
     have t3:(a == n-1)=true:=by rw[beq_iff_eq];exact h3
     clear hv h3
     go_enter Tryz.func91,Tryz.ntmps91
     go_wp2
     rw[←HW.out]
     refine rqb ?_
     repeat(any_goals(first|go_big_quiet_step (with_reducible first|exact cR _ _|exact cV _ _|exact cA _ _)|quiet_step (with_reducible first|exact cR _ _|exact cV _ _|exact cA _ _)))
     refine qz fun wq hBq=> ?_
     clear hw
     go_wp2
     go_ret
     exact⟨rfl,hBW.trans (hBq.mono hBW.size)⟩
    ·obtain rfl:ans=false:=by rw[hv];exact decide_eq_false h3
     have t3:(a == n-1)=false:=by rw[beq_eq_false_iff_ne];exact h3
     clear hv h3
     go_enter Tryz.func91,Tryz.ntmps91
     go_wp2
     rw[←HW.out]
     refine rqb ?_
     repeat(any_goals(first|go_big_quiet_step (with_reducible first|exact cR _ _|exact cV _ _|exact cA _ _)|quiet_step (with_reducible first|exact cR _ _|exact cV _ _|exact cA _ _)))
     refine qz fun wq hBq=> ?_
     clear hw
     go_wp2
     go_ret
     exact⟨rfl,hBW.trans (hBq.mono hBW.size)⟩
  ·obtain rfl:ans=false:=by rw[HV.out];simp[headB,h2]
   have t2:decide (n≤1099511627776)=false:=decide_eq_false h2
   clear cV cA hW
   go_enter Tryz.func91,Tryz.ntmps91
   go_wp2
   rw[←HW.out]
   refine rqb ?_
   repeat(any_goals(first|go_big_quiet_step (with_reducible exact cR _ _)|quiet_step (with_reducible exact cR _ _)))
   refine qz fun wq hBq=> ?_
   go_wp2
   go_ret
   exact⟨rfl,hBW.trans (hBq.mono hBW.size)⟩
 ·obtain rfl:ans=false:=by rw[HV.out];simp[headB,h1]
  have t1:decide (1≤n)=false:=decide_eq_false h1
  clear cV cA hW
  go_enter Tryz.func91,Tryz.ntmps91
  go_wp2
  rw[←HW.out]
  refine rqb ?_
  repeat(any_goals(first|go_big_quiet_step (with_reducible exact cR _ _)|quiet_step (with_reducible exact cR _ _)))
  refine qz fun wq hBq=> ?_
  go_wp2
  go_ret
  exact⟨rfl,hBW.trans (hBq.mono hBW.size)⟩
end
section
open Go.RowKit Go.Lib Go.Sort
set_option linter.unusedVariables false
theorem refright_any (t r:Int) (w:World):
  Calls Tryz.prog 101 #[.agg #[.int .i64 t,.int .i64 r]] w fun e w'=>e= .returned (.bool (Gst.right ⟨t,r⟩))∧Below w.heap.size w w':=by
 obtain⟨v,hv⟩:∃v,v=Gst.right ⟨t,r⟩:=⟨_,rfl⟩
 have HV:=hid hv
 rw[←hv]
 clear hv
 go_enter Tryz.func101,Tryz.ntmps101
 go_wp2
 all_goals
  go_ret
  refine⟨ret_bool ?_,(Below.refl _ _).alloc (Nat.le_refl _) _⟩
  rw[HV.out]
  simp[Gst.right]
  try omega
theorem before_any (t r t' r':Int) (w:World):
  Calls Tryz.prog 103 #[.agg #[.int .i64 t,.int .i64 r],.agg #[.int .i64 t',.int .i64 r']] w fun e w'=>e= .returned (.bool (Gst.lt ⟨t,r⟩ ⟨t',r'⟩))∧Below w.heap.size w w':=by
 obtain⟨v,hv⟩:∃v,v=Gst.lt ⟨t,r⟩ ⟨t',r'⟩:=⟨_,rfl⟩
 have HV:=hid hv
 rw[←hv]
 clear hv
 by_cases h1:t<t'
 ·obtain rfl:v=true:=by rw[HV.out];simp[Gst.lt,h1]
  have t1:decide (t<t')=true:=decide_eq_true h1
  go_enter Tryz.func103,Tryz.ntmps103
  go_wp2
  go_ret
  exact⟨rfl,((Below.refl _ _).alloc (Nat.le_refl _) _).alloc (by simp) _⟩
 have t1:decide (t<t')=false:=decide_eq_false h1
 by_cases h2:t=t'
 ·subst h2
  obtain rfl:v=decide (r<r'):=by rw[HV.out];simp[Gst.lt]
  clear h1
  go_enter Tryz.func103,Tryz.ntmps103
  go_wp2
  go_ret
  exact⟨rfl,((Below.refl _ _).alloc (Nat.le_refl _) _).alloc (by simp) _⟩
 ·obtain rfl:v=false:=by rw[HV.out];simp[Gst.lt,h1,h2]
  have t2:(t == t')=false:=by rw[beq_eq_false_iff_ne];exact h2
  clear h1 h2
  go_enter Tryz.func103,Tryz.ntmps103
  go_wp2
  go_ret
  exact⟨rfl,((Below.refl _ _).alloc (Nat.le_refl _) _).alloc (by simp) _⟩
theorem refrightid_any (t r i:Int) (w:World):
  Calls Tryz.prog 192 #[.agg #[.int .i64 t,.int .i64 r,.int .i64 i]] w fun e w'=>e= .returned (.bool (Gid.right ⟨⟨t,r⟩,i⟩))∧Below w.heap.size w w':=by
 obtain⟨v,hv⟩:∃v,v=Gid.right ⟨⟨t,r⟩,i⟩:=⟨_,rfl⟩
 have HV:=hid hv
 rw[←hv]
 clear hv
 cases hs:Gst.right ⟨t,r⟩ with
 |false=>
  have HS:=hid hs
  clear hs
  go_enter Tryz.func192,Tryz.ntmps192
  go_wp2_with fail
  refine(refright_any _ _ _).mono ?_
  rw[HS.out]
  rintro e w1 ⟨rfl,hB⟩
  go_wp2
  go_ret
  refine⟨ret_bool ?_,((Below.refl _ _).alloc (Nat.le_refl _) _).trans (hB.mono (by simp))⟩
  rw[HV.out]
  simp[Gid.right,HS.out]
 | true=>
  have HS:=hid hs
  clear hs
  go_enter Tryz.func192,Tryz.ntmps192
  go_wp2_with fail
  refine(refright_any _ _ _).mono ?_
  rw[HS.out]
  rintro e w1 ⟨rfl,hB⟩
  have hc:w1.cell? ⟨w.heap.size,2,none⟩=some (.int .i64 i):=by
   rw[hB.cell (by simp)];go_simp
  go_wp2
  all_goals
   go_ret
   refine⟨ret_bool ?_,((Below.refl _ _).alloc (Nat.le_refl _) _).trans (hB.mono (by simp))⟩
   rw[HV.out]
   simp[Gid.right,HS.out]
   try omega
def rcmpS (a b:Gst):Int:=if a.lt b=true then -1 else if b.lt a=true then 1 else 0
def rcmpD (a b:Gid):Int:=if rcmpS a.s b.s≠0 then rcmpS a.s b.s else if a.i<b.i then -1 else if b.i<a.i then 1 else 0
theorem rcmpS_zero (a b:Gst):rcmpS a b=0↔a.eqb b=true:=by
 have h1:a.lt b=true↔(a.t<b.t∨(a.t=b.t∧a.r<b.r)):=by simp[Gst.lt]
 have h2:b.lt a=true↔(b.t<a.t∨(b.t=a.t∧b.r<a.r)):=by simp[Gst.lt]
 have h3:a.eqb b=true↔(a.t=b.t∧a.r=b.r):=by simp[Gst.eqb]
 unfold rcmpS
 rw[h3]
 split
 ·rename_i c;rw[h1] at c;omega
 ·rename_i c;rw[h1] at c
  split
  ·rename_i d;rw[h2] at d;omega
  ·rename_i d;rw[h2] at d;omega
theorem rcmpD_ge (a b:Gid):decide (0≤rcmpD a b)= !a.lt b:=by
 have h0:=rcmpS_zero a.s b.s
 have h1:a.s.lt b.s=true→rcmpS a.s b.s= -1:=fun h=>by unfold rcmpS;rw[if_pos h]
 have h2:¬a.s.lt b.s=true→rcmpS a.s b.s=1∨rcmpS a.s b.s=0:=fun h=>by
  unfold rcmpS;rw[if_neg h];split<;>simp
 rw[Bool.eq_iff_iff]
 unfold rcmpD
 simp only[Gid.lt,decide_eq_true_eq,Bool.not_eq_true',Bool.or_eq_false_iff,Bool.and_eq_false_iff,decide_eq_false_iff_not]
 by_cases c1:a.s.lt b.s=true
 ·have:=h1 c1
  rw[this];simp[c1]
 ·have c1':a.s.lt b.s=false:=by simpa using c1
  rcases h2 c1 with c2|c2
  ·rw[c2]
   have:a.s.eqb b.s=false:=by
    rw[←Bool.not_eq_true,←h0,c2];decide
   simp[c1',this]
  ·rw[c2]
   have:a.s.eqb b.s=true:=h0.1 c2
   simp only[c1',this]
   simp
   split
   ·omega
   ·split<;>omega
theorem refcmp_any (t r t' r':Int) (w:World):
  Calls Tryz.prog 194 #[.agg #[.int .i64 t,.int .i64 r],.agg #[.int .i64 t',.int .i64 r']] w fun e w'=>e= .returned (.int .i64 (rcmpS ⟨t,r⟩ ⟨t',r'⟩))∧Below w.heap.size w w':=by
 obtain⟨v,hv⟩:∃v,v=rcmpS ⟨t,r⟩ ⟨t',r'⟩:=⟨_,rfl⟩
 have HV:=hid hv
 rw[←hv]
 clear hv
 cases h1:Gst.lt ⟨t,r⟩ ⟨t',r'⟩ with
 |true=>
  obtain rfl:v= -1:=by rw[HV.out];unfold rcmpS;rw[if_pos h1]
  have H1:=hid h1
  clear h1
  go_enter Tryz.func194,Tryz.ntmps194
  go_wp2_with fail
  refine(before_any _ _ _ _ _).mono ?_
  rw[H1.out]
  rintro e w1 ⟨rfl,hB⟩
  go_wp2
  go_ret
  exact⟨rfl,(((Below.refl _ _).alloc (Nat.le_refl _) _).alloc (by simp) _).trans (hB.mono (by simp;omega))⟩
 |false=>
 have H1:=hid h1
 have key:∀b:Bool,Gst.lt ⟨t',r'⟩ ⟨t,r⟩=b→v=(if b=true then 1 else 0):=fun b hb=>by
  rw[HV.out];unfold rcmpS;rw[h1,hb];rfl
 clear h1
 cases h2:Gst.lt ⟨t',r'⟩ ⟨t,r⟩ with
 |true=>
  obtain rfl:v=1:=key true h2
  have H2:=hid h2
  clear h2 key
  go_enter Tryz.func194,Tryz.ntmps194
  go_wp2_with fail
  refine(before_any _ _ _ _ _).mono ?_
  rw[H1.out]
  rintro e w1 ⟨rfl,hB⟩
  have c0:w1.cell? ⟨w.heap.size,0,none⟩=some (.int .i64 t):=by rw[hB.cell (by simp;omega)];go_simp
  have c1:w1.cell? ⟨w.heap.size,1,none⟩=some (.int .i64 r):=by rw[hB.cell (by simp;omega)];go_simp
  have d0:w1.cell? ⟨w.heap.size+1,0,none⟩=some (.int .i64 t'):=by rw[hB.cell (by simp)];go_simp
  have d1:w1.cell? ⟨w.heap.size+1,1,none⟩=some (.int .i64 r'):=by rw[hB.cell (by simp)];go_simp
  go_wp2_with fail
  refine(before_any _ _ _ _ _).mono ?_
  rw[H2.out]
  rintro e w2 ⟨rfl,hB2⟩
  go_wp2
  go_ret
  exact⟨rfl,((((Below.refl _ _).alloc (Nat.le_refl _) _).alloc (by simp) _).trans (hB.mono (by simp;omega))).trans (hB2.mono (by have:=hB.size;simp at this;omega))⟩
 |false=>
  obtain rfl:v=0:=key false h2
  have H2:=hid h2
  clear h2 key
  go_enter Tryz.func194,Tryz.ntmps194
  go_wp2_with fail
  refine(before_any _ _ _ _ _).mono ?_
  rw[H1.out]
  rintro e w1 ⟨rfl,hB⟩
  have c0:w1.cell? ⟨w.heap.size,0,none⟩=some (.int .i64 t):=by rw[hB.cell (by simp;omega)];go_simp
  have c1:w1.cell? ⟨w.heap.size,1,none⟩=some (.int .i64 r):=by rw[hB.cell (by simp;omega)];go_simp
  have d0:w1.cell? ⟨w.heap.size+1,0,none⟩=some (.int .i64 t'):=by rw[hB.cell (by simp)];go_simp
  have d1:w1.cell? ⟨w.heap.size+1,1,none⟩=some (.int .i64 r'):=by rw[hB.cell (by simp)];go_simp
  go_wp2_with fail
  refine(before_any _ _ _ _ _).mono ?_
  rw[H2.out]
  rintro e w2 ⟨rfl,hB2⟩
  go_wp2
  go_ret
  exact⟨rfl,((((Below.refl _ _).alloc (Nat.le_refl _) _).alloc (by simp) _).trans (hB.mono (by simp;omega))).trans (hB2.mono (by have:=hB.size;simp at this;omega))⟩
theorem refcmpid_any (t r i t' r' i':Int) (w:World):
  Calls Tryz.prog 170 #[.agg #[.int .i64 t,.int .i64 r,.int .i64 i],.agg #[.int .i64 t',.int .i64 r',.int .i64 i']] w fun e w'=>e= .returned (.int .i64 (rcmpD ⟨⟨t,r⟩,i⟩ ⟨⟨t',r'⟩,i'⟩))∧Below w.heap.size w w':=by
 obtain⟨v,hv⟩:∃v,v=rcmpD ⟨⟨t,r⟩,i⟩ ⟨⟨t',r'⟩,i'⟩:=⟨_,rfl⟩
 have HV:=hid hv
 rw[←hv]
 clear hv
 obtain⟨q,hq⟩:∃q,q=rcmpS ⟨t,r⟩ ⟨t',r'⟩:=⟨_,rfl⟩
 have hvq:v=(if q≠0 then q else if i<i' then -1 else if i'<i then 1 else 0):=by rw[HV.out,hq];rfl
 have HQ:=hid hq
 have HVQ:=hid hvq
 clear hq hvq HV
 go_enter Tryz.func170,Tryz.ntmps170
 go_wp2_with fail
 refine(refcmp_any _ _ _ _ _).mono ?_
 rw[←HQ.out]
 rintro e w1 ⟨rfl,hB⟩
 have c2:w1.cell? ⟨w.heap.size,2,none⟩=some (.int .i64 i):=by rw[hB.cell (by simp;omega)];go_simp
 have d2:w1.cell? ⟨w.heap.size+1,2,none⟩=some (.int .i64 i'):=by rw[hB.cell (by simp)];go_simp
 have hBB:=(((Below.refl w.heap.size w).alloc (Nat.le_refl _) (.cells #[.int .i64 t,.int .i64 r,.int .i64 i] 108)).alloc (by simp) (.cells #[.int .i64 t',.int .i64 r',.int .i64 i'] 108)).trans (hB.mono (by simp;omega))
 clear hB
 by_cases h0:q=0
 ·subst h0
  by_cases h1:i<i'
  ·obtain rfl:v= -1:=by rw[HVQ.out];simp[h1]
   go_wp2
   go_ret
   exact⟨rfl,hBB⟩
  ·by_cases h2:i'<i
   ·obtain rfl:v=1:=by rw[HVQ.out];simp[h1,h2]
    have t1:decide (i<i')=false:=decide_eq_false h1
    clear h1
    go_wp2
    go_ret
    exact⟨rfl,hBB⟩
   ·obtain rfl:v=0:=by rw[HVQ.out];simp[h1,h2]
    have t1:decide (i<i')=false:=decide_eq_false h1
    have t2:decide (i'<i)=false:=decide_eq_false h2
    clear h1 h2
    go_wp2
    go_ret
    exact⟨rfl,hBB⟩
 ·obtain rfl:v=q:=by rw[HVQ.out];simp[h0]
  have t1:(v != 0)=true:=by rw[bne_iff_ne];exact h0
  clear h0
  go_wp2
  go_ret
  exact⟨rfl,hBB⟩
end
section
open Go.RowKit Go.Lib Go.Sort
set_option linter.unusedVariables false
section
variable {P : Program} {ops : Array Oper} {C : World → Prop} {Q : Exit → Act → World → Prop} {Q' : Act → Prop}
theorem wpList_of_quiet (hQ:∀a w,C w→Q' a→Q .normal a w):∀(l:List Oper) (a:Act) (w:World),C w→wpQuiet P ops C Q' l a→wpList P ops Q l a w
 | [],a,w,hc,h=>hQ a w hc h
 | o::rest,a,w,hc,h=>by
  unfold wpList
  unfold wpQuiet at h
  by_cases hw:Region.wanted o (yielded ops a.tmps)=true
  ·rw[if_pos hw] at h ⊢
   exact .inl (Oper.wp_of_quiet hc (fun a' w' hc' hk=>wpList_of_quiet hQ rest a' w' hc' hk) h)
  ·rw[if_neg hw] at h ⊢
   exact wpList_of_quiet hQ rest _ w hc h
theorem wp_plain_quiet_below {id:Nat} {a:Act} {w:World} {l:List Oper}
  (h:wpQuiet P l.toArray (fun w'=>∃p:Regrown,w'=grow (redrawn w p.d) p.os) (fun a'=>∀w',(∃p:Regrown,w'=grow (redrawn w p.d) p.os)→Q .normal a' w') l a):(Code.region id l.toArray false).wp P Q a w:=by
 refine wp_region ?_
 have e:=wpOps_eq_wpList (P:=P) (ops:=l.toArray) (Q:=Q) l 0 (by simp)
 rw[List.range_eq_range',List.size_toArray,e]
 exact wpList_of_quiet (fun a w hc h=>h w hc) l a w ⟨⟨w.drawn,#[]⟩,by rw[grow_empty];rfl⟩ h
end
end
end
end Go.Proofs.YtkhmicndehlneaaGreatDoor
