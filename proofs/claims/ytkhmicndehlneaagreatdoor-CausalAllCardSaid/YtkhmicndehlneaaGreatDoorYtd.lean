/- Part 4 of the walks and plain laws that this claim uses, joined. Conditions: as each theorem states. -/
import Derived.Deep.CutBlock
import Derived.Deep.CutRange
import Derived.Test.YtkhmicndehlneaaGreatDoorYtc
namespace Go.Proofs.YtkhmicndehlneaaGreatDoor
set_option maxRecDepth 100000
set_option maxHeartbeats 16000000
section
section
open Go.RowKit Go.Lib Go.Sort
set_option linter.unusedVariables false
structure GX where
 n:Int
 dA:Option Addr
 dn:Nat
 dc:Nat
 ut:Int
 ur:Int
 oA:Option Addr
 on:Nat
 oc:Nat
def gxV (g:Gst) (x:GX):Value:= .agg #[.int .i64 g.t,.int .i64 g.r,.int .i64 x.n,.slice x.dA x.dn x.dc,.int .i64 x.ut,.int .i64 x.ur,.slice x.oA x.on x.oc]
theorem refnone_any (t r i:Int) (w:World):
  Calls Tryz.prog 191 #[.agg #[.int .i64 t,.int .i64 r,.int .i64 i]] w fun e w'=>e= .returned (.bool (Gid.none ⟨⟨t,r⟩,i⟩))∧Below w.heap.size w w':=by
 have he:=eq_id t r i 0 0 0 (Gid.none ⟨⟨t,r⟩,i⟩) rfl
 generalize Gid.none ⟨⟨t,r⟩,i⟩=v at *
 go_enter Tryz.func191,Tryz.ntmps191
 go_wp2
 go_ret
 exact⟨rfl,(Below.refl _ _).alloc (Nat.le_refl _) _⟩
theorem refahead_any (g:Gst) (y:GX) (x:Gid) (k:Nat) (w:World):
  Calls Tryz.prog 161 #[gxV g y,idV x,.int .i64 k] w fun e w'=>e= .returned (.bool (aheadB g x k))∧Below w.heap.size w w':=by
 obtain⟨⟨t,r⟩,i⟩:=x
 obtain⟨gt,gr⟩:=g
 obtain⟨n,dA,dn,dc,ut,ur,oA,on,oc⟩:=y
 show Calls _ _ #[.agg #[.int .i64 gt,.int .i64 gr,.int .i64 n,.slice dA dn dc,.int .i64 ut,.int .i64 ur,.slice oA on oc],.agg #[.int .i64 t,.int .i64 r,.int .i64 i],_] _ _
 obtain⟨ans,ha⟩:∃a,a=aheadB ⟨gt,gr⟩ ⟨⟨t,r⟩,i⟩ k:=⟨_,rfl⟩
 rw[←ha]
 have HV:=hid ha
 clear ha
 cases hR:Gid.right ⟨⟨t,r⟩,i⟩ with
 |false=>
  obtain rfl:ans=false:=by rw[HV.out];simp[aheadB,hR]
  have HR:=hid hR
  clear hR
  go_enter Tryz.func161,Tryz.ntmps161
  go_wp2_with fail
  refine(refrightid_any _ _ _ _).mono ?_
  rw[HR.out]
  rintro e w1 ⟨rfl,hB⟩
  go_wp2
  go_ret
  exact⟨rfl,(((Below.refl _ _).alloc (Nat.le_refl _) _).alloc (by simp) _).trans (hB.mono (by simp;omega))⟩
 |true=>
 have HR:=hid hR
 clear hR
 obtain⟨l,hl⟩:∃l,l=Gst.lt ⟨t,r⟩ ⟨gt,gr⟩:=⟨_,rfl⟩
 have HL:=hid hl
 clear hl
 go_enter Tryz.func161,Tryz.ntmps161
 go_wp2_with fail
 refine(refrightid_any _ _ _ _).mono ?_
 rw[HR.out]
 rintro e w1 ⟨rfl,hB⟩
 have g0:w1.cell? ⟨w.heap.size,0,none⟩=some (.int .i64 gt):=by rw[hB.cell (by simp;omega)];go_simp
 have g1:w1.cell? ⟨w.heap.size,1,none⟩=some (.int .i64 gr):=by rw[hB.cell (by simp;omega)];go_simp
 have c0:w1.cell? ⟨w.heap.size+1,0,none⟩=some (.int .i64 t):=by rw[hB.cell (by simp)];go_simp
 have c1:w1.cell? ⟨w.heap.size+1,1,none⟩=some (.int .i64 r):=by rw[hB.cell (by simp)];go_simp
 have c2:w1.cell? ⟨w.heap.size+1,2,none⟩=some (.int .i64 i):=by rw[hB.cell (by simp)];go_simp
 have hBB:=(((Below.refl w.heap.size w).alloc (Nat.le_refl _) (.cells #[.int .i64 gt,.int .i64 gr,.int .i64 n,.slice dA dn dc,.int .i64 ut,.int .i64 ur,.slice oA on oc] 45)).alloc (by simp) (.cells #[.int .i64 t,.int .i64 r,.int .i64 i] 108)).trans (hB.mono (by simp;omega))
 clear hB
 go_wp2_with fail
 refine(before_any _ _ _ _ _).mono ?_
 rw[←HL.out]
 rintro e w2 ⟨rfl,hB2⟩
 have hs:=hBB.size
 have l0:=lt_of_cell g0
 have l1:=lt_of_cell c0
 have g0':w2.cell? ⟨w.heap.size,0,none⟩=some (.int .i64 gt):=(hB2.cell (p:=⟨w.heap.size,0,none⟩) l0).trans g0
 have g1':w2.cell? ⟨w.heap.size,1,none⟩=some (.int .i64 gr):=(hB2.cell (p:=⟨w.heap.size,1,none⟩) l0).trans g1
 have c0':w2.cell? ⟨w.heap.size+1,0,none⟩=some (.int .i64 t):=(hB2.cell (p:=⟨w.heap.size+1,0,none⟩) l1).trans c0
 have c1':w2.cell? ⟨w.heap.size+1,1,none⟩=some (.int .i64 r):=(hB2.cell (p:=⟨w.heap.size+1,1,none⟩) l1).trans c1
 have c2':w2.cell? ⟨w.heap.size+1,2,none⟩=some (.int .i64 i):=(hB2.cell (p:=⟨w.heap.size+1,2,none⟩) l1).trans c2
 have hB3:=hBB.trans (hB2.mono hs)
 clear hBB hB2 g0 g1 c0 c1 c2 l0 l1 hs
 cases l with
 |true=>
  obtain rfl:ans=true:=by rw[HV.out];simp[aheadB,HR.out,←HL.out]
  go_wp2
  go_ret
  exact⟨rfl,hB3⟩
 | false=>
  cases hE:Gst.eqb ⟨t,r⟩ ⟨gt,gr⟩ with
  |false=>
   have he:=eq_st t r gt gr false hE
   obtain rfl:ans=false:=by rw[HV.out];simp[aheadB,HR.out,←HL.out,hE]
   clear hE
   go_wp2
   go_ret
   exact⟨rfl,hB3⟩
  |true=>
   have he:=eq_st t r gt gr true hE
   obtain rfl:ans=decide (i<k):=by rw[HV.out];simp[aheadB,HR.out,←HL.out,hE]
   clear hE
   go_wp2
   go_ret
   exact⟨rfl,hB3⟩
theorem refparent_any (g:Gst) (y:GX) (x:Gid) (k:Nat) (w:World):
  Calls Tryz.prog 158 #[gxV g y,idV x,.int .i64 k] w fun e w'=>e= .returned (.bool (parentB g x k))∧Below w.heap.size w w':=by
 obtain⟨⟨t,r⟩,i⟩:=x
 obtain⟨gt,gr⟩:=g
 obtain⟨n,dA,dn,dc,ut,ur,oA,on,oc⟩:=y
 show Calls _ _ #[.agg #[.int .i64 gt,.int .i64 gr,.int .i64 n,.slice dA dn dc,.int .i64 ut,.int .i64 ur,.slice oA on oc],.agg #[.int .i64 t,.int .i64 r,.int .i64 i],_] _ _
 obtain⟨ans,ha⟩:∃a,a=parentB ⟨gt,gr⟩ ⟨⟨t,r⟩,i⟩ k:=⟨_,rfl⟩
 rw[←ha]
 have HV:=hid ha
 clear ha
 have hAh:=fun w=>refahead_any ⟨gt,gr⟩ ⟨n,dA,dn,dc,ut,ur,oA,on,oc⟩ ⟨⟨t,r⟩,i⟩ k w
 have HAh:=hid hAh
 clear hAh
 obtain⟨b,hb⟩:∃b,b=Gid.none ⟨⟨t,r⟩,i⟩:=⟨_,rfl⟩
 have HB:=hid hb
 clear hb
 go_enter Tryz.func158,Tryz.ntmps158
 go_wp2_with fail
 refine(refnone_any _ _ _ _).mono ?_
 rw[←HB.out]
 rintro e w1 ⟨rfl,hB⟩
 have hBB:=(((Below.refl w.heap.size w).alloc (Nat.le_refl _) (.cells #[.int .i64 gt,.int .i64 gr,.int .i64 n,.slice dA dn dc,.int .i64 ut,.int .i64 ur,.slice oA on oc] 45)).alloc (by simp) (.cells #[.int .i64 t,.int .i64 r,.int .i64 i] 108)).trans (hB.mono (by simp;omega))
 cases b with
 |true=>
  obtain rfl:ans=true:=by rw[HV.out];simp[parentB,←HB.out]
  go_wp2
  go_ret
  exact⟨rfl,hBB⟩
 |false=>
  obtain rfl:ans=aheadB ⟨gt,gr⟩ ⟨⟨t,r⟩,i⟩ k:=by rw[HV.out];simp[parentB,←HB.out]
  have g0:w1.cell? ⟨w.heap.size,0,none⟩=some (.int .i64 gt):=by rw[hB.cell (by simp;omega)];go_simp
  have g1:w1.cell? ⟨w.heap.size,1,none⟩=some (.int .i64 gr):=by rw[hB.cell (by simp;omega)];go_simp
  have g2:w1.cell? ⟨w.heap.size,2,none⟩=some (.int .i64 n):=by rw[hB.cell (by simp;omega)];go_simp
  have g3:w1.cell? ⟨w.heap.size,3,none⟩=some (.slice dA dn dc):=by rw[hB.cell (by simp;omega)];go_simp
  have g4:w1.cell? ⟨w.heap.size,4,none⟩=some (.int .i64 ut):=by rw[hB.cell (by simp;omega)];go_simp
  have g5:w1.cell? ⟨w.heap.size,5,none⟩=some (.int .i64 ur):=by rw[hB.cell (by simp;omega)];go_simp
  have g6:w1.cell? ⟨w.heap.size,6,none⟩=some (.slice oA on oc):=by rw[hB.cell (by simp;omega)];go_simp
  have c0:w1.cell? ⟨w.heap.size+1,0,none⟩=some (.int .i64 t):=by rw[hB.cell (by simp)];go_simp
  have c1:w1.cell? ⟨w.heap.size+1,1,none⟩=some (.int .i64 r):=by rw[hB.cell (by simp)];go_simp
  have c2:w1.cell? ⟨w.heap.size+1,2,none⟩=some (.int .i64 i):=by rw[hB.cell (by simp)];go_simp
  clear hB
  go_wp2_with fail
  refine(HAh.out _).mono ?_
  rintro e w2 ⟨rfl,hB2⟩
  go_wp2
  go_ret
  exact⟨rfl,hBB.trans (hB2.mono hBB.size)⟩
end
section
open Go.RowKit Go.Lib Go.Sort
set_option linter.unusedVariables false
theorem refdots_any (g:Gst) (y:GX) (A:Option Addr) (c:Nat) (l:List Gst) (S:Nat→Prop) (w:World) (hl:l.length≤9223372036854775807) (hA:StsS w S A l):
  Calls Tryz.prog 162 #[gxV g y,.slice A l.length c] w fun e w'=>e= .returned (.bool (dotsB g l))∧Below w.heap.size w w':=by
 obtain⟨gt,gr⟩:=g
 obtain⟨n',dA,dn,dc,ut,ur,oA,on,oc⟩:=y
 show Calls _ _ #[.agg #[.int .i64 gt,.int .i64 gr,.int .i64 n',.slice dA dn dc,.int .i64 ut,.int .i64 ur,.slice oA on oc],_] _ _
 have HA:=hid hA
 obtain⟨n,hn⟩:∃n,n=l.length:=⟨_,rfl⟩
 obtain⟨ans,hans⟩:∃r,r=dotsB ⟨gt,gr⟩ l:=⟨_,rfl⟩
 rw[←hn] at hl ⊢
 rw[←hans]
 have HN:=hid hn
 have HV:=hid hans
 clear hA hn hans
 obtain⟨W0,hW0⟩:∃W0,W0=w.alloc (.cells #[.int .i64 gt,.int .i64 gr,.int .i64 n',.slice dA dn dc,.int .i64 ut,.int .i64 ur,.slice oA on oc] 45):=⟨_,rfl⟩
 have hB0:Below w.heap.size w W0:=by subst hW0;exact(Below.refl _ _).alloc (Nat.le_refl _) _
 have hG:W0.heap[w.heap.size]? =some (.cells #[.int .i64 gt,.int .i64 gr,.int .i64 n',.slice dA dn dc,.int .i64 ut,.int .i64 ur,.slice oA on oc] 45 (0,0)):=by subst hW0;exact heap_alloc_new _ _
 have g0:=cw0 hG
 have g1:=cw1 hG
 have HW:=hid hW0
 have HG0:=hid g0
 have HG1:=hid g1
 have hsz:=lt_of_cell g0
 clear hW0 hG g0 g1
 go_enter Tryz.func162,Tryz.ntmps162
 go_wp2
 rw[←HW.out]
 go_loopw [5] (fun i wr=>∃k:Nat,k≤n∧i= .int .i64 k∧Hid (∀i,i<k→dotB ⟨gt,gr⟩ l i=true)∧Below W0.heap.size W0 wr) (fun i _=>n-(RowKit.intOf i).toNat)
 case atStart=>exact⟨0,by omega,rfl,fun i hi=>absurd hi (by omega),Below.refl _ _⟩
 case round=>
  obtain⟨j,hj,rfl,HK,hBr⟩:=hrel
  have hBw:Below w.heap.size w wr:=hB0.trans (hBr.mono hB0.size)
  by_cases hlt:j<n
  ·obtain⟨ab,ao,rfl,-,hab,c0,c1⟩:=StsS.at_ (RowG.agr HA.out (Agr.below hBw)) (k:=j) (by have:=HN.out;omega)
   obtain⟨x,hx⟩:∃x,x=l.getD j .zero:=⟨_,rfl⟩
   rw[←hx] at c0 c1
   have HX:=hid hx
   clear hx
   obtain⟨xt,xr⟩:=x
   simp only at c0 c1
   have kt:=cell_regrown ((hBr.cell (p:=⟨w.heap.size,0,none⟩) hsz).trans HG0.out)
   have kr:=cell_regrown ((hBr.cell (p:=⟨w.heap.size,1,none⟩) hsz).trans HG1.out)
   have x0:=cell_regrown c0
   have x1:=cell_regrown c1
   have cR:=fun d os=>Calls.regrown_of (refright_any xt xr (grow (redrawn wr d) os))
   have cC:=fun d os=>Calls.regrown_of (before_any gt gr xt xr (grow (redrawn wr d) os))
   have bad:dotB ⟨gt,gr⟩ l j=false→ans=false:=fun h=>by
    rw[HV.out]
    unfold dotsB
    rw[allIx_false (by rw[←HN.out];exact hlt) h]
    rfl
   have HBad:=hid bad
   clear bad c0 c1
   cases hR:Gst.right ⟨xt,xr⟩ with
   |false=>
    rw[hR] at cR
    obtain rfl:ans=false:=HBad.out (by unfold dotB;rw[←HX.out,hR];rfl)
    clear hR cC
    go_wp2
    refine rqb ?_
    repeat(any_goals(first|go_big_quiet_step (with_reducible exact cR _ _)|quiet_step (with_reducible exact cR _ _)))
    refine qz fun wq hBq=> ?_
    go_wp2
    go_ret
    exact⟨rfl,hBw.trans (hBq.mono hBw.size)⟩
   | true=>
    rw[hR] at cR
    have HR:=hid hR
    clear hR
    cases hG:Gst.lt ⟨gt,gr⟩ ⟨xt,xr⟩ with
    |true=>
     rw[hG] at cC
     obtain rfl:ans=false:=HBad.out (by unfold dotB;rw[←HX.out,hG,HR.out];rfl)
     clear hG
     go_wp2
     refine rqb ?_
     repeat(any_goals(first|go_big_quiet_step (with_reducible first|exact cR _ _|exact cC _ _)|quiet_step (with_reducible first|exact cR _ _|exact cC _ _)))
     refine qz fun wq hBq=> ?_
     go_wp2
     go_ret
     exact⟨rfl,hBw.trans (hBq.mono hBw.size)⟩
    | false=>
     rw[hG] at cC
     have HG:=hid hG
     clear hG
     by_cases hj0:j=0
     ·have b1:decide (0<j)=false:=by rw[decide_eq_false_iff_not];omega
      have HK2:Hid (∀i,i<j+1→dotB ⟨gt,gr⟩ l i=true):=fun i hi=>by
       obtain rfl:i=j:=by omega
       unfold dotB
       rw[←HX.out,HG.out,HR.out]
       simp[hj0]
      clear hj0
      go_wp2
      refine rqb ?_
      repeat(any_goals(first|go_big_quiet_step (with_reducible first|exact cR _ _|exact cC _ _)|quiet_step (with_reducible first|exact cR _ _|exact cC _ _)))
      refine qz fun wq hBq=> ?_
      go_wp2
      go_roundw
      case rel=>exact⟨j+1,by omega,by go_num,HK2,hBr.trans (hBq.mono hBr.size)⟩
      case measure=>simp[RowKit.intOf];omega
     ·obtain⟨m,hm⟩:∃m,m+1=j:=⟨j-1,by omega⟩
      obtain⟨ab2,ao2,e2,-,-,d0,d1⟩:=StsS.at_ (RowG.agr HA.out (Agr.below hBw)) (k:=m) (by have:=HN.out;omega)
      injection e2 with e2
      injection e2 with e3 e4
      subst e3 e4
      obtain⟨y,hy⟩:∃y,y=l.getD m .zero:=⟨_,rfl⟩
      rw[←hy] at d0 d1
      have HY:=hid hy
      clear hy
      obtain⟨yt,yr⟩:=y
      simp only at d0 d1
      have y0:=cell_regrown d0
      have y1:=cell_regrown d1
      have cD:=fun d os=>Calls.regrown_of (before_any yt yr xt xr (grow (redrawn wr d) os))
      have b1:decide (0<j)=true:=by rw[decide_eq_true_eq];omega
      have b2:(j:Int)-1=(m:Int):=by omega
      have b3:(0:Int)≤(m:Int):=by omega
      have b4:(m:Int)<(n:Int):=by omega
      have b5:IntKind.i64.wrap ((j:Int)-1)=(m:Int):=by rw[b2];exact IntWalk.i64_in _ (by omega)
      have b6:m=j-1:=by omega
      have HM:=hid b6
      clear b6 hm hj0 d0 d1
      cases hL:Gst.lt ⟨yt,yr⟩ ⟨xt,xr⟩ with
      | false=>
       rw[hL] at cD
       obtain rfl:ans=false:=HBad.out (by
        unfold dotB
        rw[←HX.out,HG.out,HR.out,←HM.out,←HY.out,hL]
        have:¬j=0:=fun e=>by rw[e] at b1;simp at b1
        simp[this])
       clear hL
       go_wp2
       refine rqb ?_
       repeat(any_goals(first|go_big_quiet_step (with_reducible first|exact cR _ _|exact cC _ _|exact cD _ _)|quiet_step (with_reducible first|exact cR _ _|exact cC _ _|exact cD _ _)))
       refine qz fun wq hBq=> ?_
       go_wp2
       go_ret
       exact⟨rfl,hBw.trans (hBq.mono hBw.size)⟩
      | true=>
       rw[hL] at cD
       have HK2:Hid (∀i,i<j+1→dotB ⟨gt,gr⟩ l i=true):=fun i hi=>by
        rcases Nat.lt_or_ge i j with h|h
        ·exact HK.out i h
        ·obtain rfl:i=j:=by omega
         unfold dotB
         rw[←HX.out,HG.out,HR.out,←HM.out,←HY.out,hL]
         simp
       clear hL
       go_wp2
       refine rqb ?_
       repeat(any_goals(first|go_big_quiet_step (with_reducible first|exact cR _ _|exact cC _ _|exact cD _ _)|quiet_step (with_reducible first|exact cR _ _|exact cC _ _|exact cD _ _)))
       refine qz fun wq hBq=> ?_
       clear b5
       go_wp2
       go_roundw
       case rel=>exact⟨j+1,by omega,by go_num,HK2,hBr.trans (hBq.mono hBr.size)⟩
       case measure=>simp[RowKit.intOf];omega
  ·obtain rfl:j=n:=by omega
   have hv:ans=decide (j≤200):=by
    rw[HV.out]
    unfold dotsB
    rw[allIx_true (fun i hi=>HK.out i (by have:=HN.out;omega)),←HN.out]
    rfl
   by_cases h2:j≤200
   ·obtain rfl:ans=true:=by rw[hv];exact decide_eq_true h2
    have t1:(j:Int)≤200:=by omega
    clear hv
    go_wp2
    go_ret
    exact⟨rfl,hBw⟩
   ·obtain rfl:ans=false:=by rw[hv];exact decide_eq_false h2
    have t1:¬(j:Int)≤200:=by omega
    clear hv
    go_wp2
    go_ret
    exact⟨rfl,hBw⟩
theorem refelems_any (g:Gst) (y:GX) (k:Nat) (A:Option Addr) (c:Nat) (l:List Gid) (S:Nat→Prop) (w:World) (hl:l.length≤9223372036854775807) (hA:IdsS w S A l):
  Calls Tryz.prog 164 #[gxV g y,.slice A l.length c,.int .i64 k] w fun e w'=>e= .returned (.bool (elemsB g l k))∧Below w.heap.size w w':=by
 obtain⟨gt,gr⟩:=g
 obtain⟨n',dA,dn,dc,ut,ur,oA,on,oc⟩:=y
 have cA0:=fun x w=>refahead_any ⟨gt,gr⟩ ⟨n',dA,dn,dc,ut,ur,oA,on,oc⟩ x k w
 have HCA:=hid cA0
 clear cA0
 show Calls _ _ #[.agg #[.int .i64 gt,.int .i64 gr,.int .i64 n',.slice dA dn dc,.int .i64 ut,.int .i64 ur,.slice oA on oc],_,_] _ _
 have HA:=hid hA
 obtain⟨n,hn⟩:∃n,n=l.length:=⟨_,rfl⟩
 obtain⟨ans,hans⟩:∃r,r=elemsB ⟨gt,gr⟩ l k:=⟨_,rfl⟩
 rw[←hn] at hl ⊢
 rw[←hans]
 have HN:=hid hn
 have HV:=hid hans
 clear hA hn hans
 obtain⟨W0,hW0⟩:∃W0,W0=w.alloc (.cells #[.int .i64 gt,.int .i64 gr,.int .i64 n',.slice dA dn dc,.int .i64 ut,.int .i64 ur,.slice oA on oc] 45):=⟨_,rfl⟩
 have hB0:Below w.heap.size w W0:=by subst hW0;exact(Below.refl _ _).alloc (Nat.le_refl _) _
 have hG:W0.heap[w.heap.size]? =some (.cells #[.int .i64 gt,.int .i64 gr,.int .i64 n',.slice dA dn dc,.int .i64 ut,.int .i64 ur,.slice oA on oc] 45 (0,0)):=by subst hW0;exact heap_alloc_new _ _
 have HW:=hid hW0
 have HG:=hid hG
 have hsz:w.heap.size<W0.heap.size:=by subst hW0;simp
 clear hW0 hG
 go_enter Tryz.func164,Tryz.ntmps164
 go_wp2
 rw[←HW.out]
 go_loopw [7] (fun i wr=>∃j:Nat,j≤n∧i= .int .i64 j∧Hid (∀i,i<j→elemB ⟨gt,gr⟩ l k i=true)∧Below W0.heap.size W0 wr) (fun i _=>n-(RowKit.intOf i).toNat)
 case atStart=>exact⟨0,by omega,rfl,fun i hi=>absurd hi (by omega),Below.refl _ _⟩
 case round=>
  obtain⟨j,hj,rfl,HK,hBr⟩:=hrel
  have hBw:Below w.heap.size w wr:=hB0.trans (hBr.mono hB0.size)
  by_cases hlt:j<n
  ·obtain⟨ab,ao,rfl,-,hab,c0,c1,c2⟩:=IdsS.at_ (RowG.agr HA.out (Agr.below hBw)) (k:=j) (by have:=HN.out;omega)
   obtain⟨x,hx⟩:∃x,x=l.getD j .zero:=⟨_,rfl⟩
   rw[←hx] at c0 c1 c2
   have HX:=hid hx
   clear hx
   obtain⟨⟨xt,xr⟩,xi⟩:=x
   simp only at c0 c1 c2
   have hGr:=(hBr.block _ hsz).trans HG.out
   have k0:=rg0 hGr
   have k1:=rg1 hGr
   have k2:=rg2 hGr
   have k3:=rg3 hGr
   have k4:=rg4 hGr
   have k5:=rg5 hGr
   have k6:=rg6 hGr
   have x0:=cell_regrown c0
   have x1:=cell_regrown c1
   have x2:=cell_regrown c2
   have cA:∀d os,Calls Tryz.prog 161 #[.agg #[.int .i64 gt,.int .i64 gr,.int .i64 n',.slice dA dn dc,.int .i64 ut,.int .i64 ur,.slice oA on oc],.agg #[.int .i64 xt,.int .i64 xr,.int .i64 xi],.int .i64 k] (grow (redrawn wr d) os) fun e w''=>e= .returned (.bool (aheadB ⟨gt,gr⟩ ⟨⟨xt,xr⟩,xi⟩ k))∧∃p:Regrown,w''=grow (redrawn wr p.d) p.os:=fun d os=>
    Calls.regrown_of (HCA.out ⟨⟨xt,xr⟩,xi⟩ _)
   have bad:elemB ⟨gt,gr⟩ l k j=false→ans=false:=fun h=>by
    rw[HV.out]
    unfold elemsB
    rw[allIx_false (by rw[←HN.out];exact hlt) h]
    rfl
   have HBad:=hid bad
   clear bad hGr c0 c1 c2
   cases hR:aheadB ⟨gt,gr⟩ ⟨⟨xt,xr⟩,xi⟩ k with
   |false=>
    rw[hR] at cA
    obtain rfl:ans=false:=HBad.out (by unfold elemB;rw[←HX.out,hR];rfl)
    clear hR
    go_wp2
    refine rqb ?_
    repeat(any_goals(first|go_big_quiet_step (with_reducible exact cA _ _)|quiet_step (with_reducible exact cA _ _)))
    refine qz fun wq hBq=> ?_
    go_wp2
    go_ret
    exact⟨rfl,hBw.trans (hBq.mono hBw.size)⟩
   | true=>
    rw[hR] at cA
    have HR:=hid hR
    clear hR
    by_cases hj0:j=0
    ·have b1:decide (0<j)=false:=by rw[decide_eq_false_iff_not];omega
     have HK2:Hid (∀i,i<j+1→elemB ⟨gt,gr⟩ l k i=true):=fun i hi=>by
      obtain rfl:i=j:=by omega
      unfold elemB
      rw[←HX.out,HR.out]
      simp[hj0]
     clear hj0
     go_wp2
     refine rqb ?_
     repeat(any_goals(first|go_big_quiet_step (with_reducible exact cA _ _)|quiet_step (with_reducible exact cA _ _)))
     refine qz fun wq hBq=> ?_
     go_wp2
     go_roundw
     case rel=>exact⟨j+1,by omega,by go_num,HK2,hBr.trans (hBq.mono hBr.size)⟩
     case measure=>simp[RowKit.intOf];omega
    ·obtain⟨m,hm⟩:∃m,m+1=j:=⟨j-1,by omega⟩
     obtain⟨ab2,ao2,e2,-,-,d0,d1,d2⟩:=IdsS.at_ (RowG.agr HA.out (Agr.below hBw)) (k:=m) (by have:=HN.out;omega)
     injection e2 with e2
     injection e2 with e3 e4
     subst e3 e4
     obtain⟨y,hy⟩:∃y,y=l.getD m .zero:=⟨_,rfl⟩
     rw[←hy] at d0 d1 d2
     have HY:=hid hy
     clear hy
     obtain⟨⟨yt,yr⟩,yi⟩:=y
     simp only at d0 d1 d2
     have y0:=cell_regrown d0
     have y1:=cell_regrown d1
     have y2:=cell_regrown d2
     have cD:=fun d os=>Calls.regrown_of (refcmpid_any yt yr yi xt xr xi (grow (redrawn wr d) os))
     have hd:=rcmpD_ge ⟨⟨yt,yr⟩,yi⟩ ⟨⟨xt,xr⟩,xi⟩
     have b1:decide (0<j)=true:=by rw[decide_eq_true_eq];omega
     have b2:(j:Int)-1=(m:Int):=by omega
     have b3:(0:Int)≤(m:Int):=by omega
     have b4:(m:Int)<(n:Int):=by omega
     have b5:IntKind.i64.wrap ((j:Int)-1)=(m:Int):=by rw[b2];exact IntWalk.i64_in _ (by omega)
     have b6:m=j-1:=by omega
     have HM:=hid b6
     clear b6 hm hj0 d0 d1 d2
     cases hL:Gid.lt ⟨⟨yt,yr⟩,yi⟩ ⟨⟨xt,xr⟩,xi⟩ with
     | false=>
      rw[hL] at hd
      obtain rfl:ans=false:=HBad.out (by
       unfold elemB
       rw[←HX.out,HR.out,←HM.out,←HY.out,hL]
       have:¬j=0:=fun e=>by rw[e] at b1;simp at b1
       simp[this])
      clear hL
      go_wp2
      refine rqb ?_
      repeat(any_goals(first|go_big_quiet_step (with_reducible first|exact cA _ _|exact cD _ _)|quiet_step (with_reducible first|exact cA _ _|exact cD _ _)))
      refine qz fun wq hBq=> ?_
      go_wp2
      go_ret
      exact⟨rfl,hBw.trans (hBq.mono hBw.size)⟩
     | true=>
      rw[hL] at hd
      have HK2:Hid (∀i,i<j+1→elemB ⟨gt,gr⟩ l k i=true):=fun i hi=>by
       rcases Nat.lt_or_ge i j with h|h
       ·exact HK.out i h
       ·obtain rfl:i=j:=by omega
        unfold elemB
        rw[←HX.out,HR.out,←HM.out,←HY.out,hL]
        simp
      clear hL
      go_wp2
      refine rqb ?_
      repeat(any_goals(first|go_big_quiet_step (with_reducible first|exact cA _ _|exact cD _ _)|quiet_step (with_reducible first|exact cA _ _|exact cD _ _)))
      refine qz fun wq hBq=> ?_
      clear b5
      go_wp2
      go_roundw
      case rel=>exact⟨j+1,by omega,by go_num,HK2,hBr.trans (hBq.mono hBr.size)⟩
      case measure=>simp[RowKit.intOf];omega
  ·obtain rfl:j=n:=by omega
   have hv:ans=(decide (1≤j) && decide (j≤2000)):=by
    rw[HV.out]
    unfold elemsB
    rw[allIx_true (fun i hi=>HK.out i (by have:=HN.out;omega)),←HN.out]
    rfl
   by_cases h1:1≤j
   ·have t0:(1:Int)≤(j:Int):=by omega
    by_cases h2:j≤2000
    ·obtain rfl:ans=true:=by rw[hv];simp[h1,h2]
     have t1:(j:Int)≤2000:=by omega
     clear hv
     go_wp2
     go_ret
     exact⟨rfl,hBw⟩
    ·obtain rfl:ans=false:=by rw[hv];simp;omega
     have t1:¬(j:Int)≤2000:=by omega
     clear hv
     go_wp2
     go_ret
     exact⟨rfl,hBw⟩
   ·obtain rfl:ans=false:=by rw[hv];simp;omega
    have t1:¬(1:Int)≤(j:Int):=by omega
    clear hv
    go_wp2
    go_ret
    exact⟨rfl,hBw⟩
end
section
open Go.RowKit Go.Lib Go.Sort
set_option linter.unusedVariables false
set_option linter.unusedSimpArgs false
theorem vbare_0 (k nt nr ni pt pr pi:Int) (name:ByteArray) (dir:Bool) (dA:Option Addr) (dn dc:Nat) (at_ ar ai et er ei:Int) (text:ByteArray) (eA:Option Addr) (en ec:Nat) (w:World) (hvt:((decide (dn=0)) && (Gid.none ⟨⟨at_,ar⟩,ai⟩) && (Gid.none ⟨⟨et,er⟩,ei⟩) && (decide (text.data.toList=[])) && (decide (en=0)))=true):
  Calls Tryz.prog 160 #[.agg #[.int .i64 k,.int .i64 nt,.int .i64 nr,.int .i64 ni,.int .i64 pt,.int .i64 pr,.int .i64 pi,.string name,.bool dir,.slice dA dn dc,.int .i64 at_,.int .i64 ar,.int .i64 ai,.int .i64 et,.int .i64 er,.int .i64 ei,.string text,.slice eA en ec],.bool true,.bool true,.bool false,.bool false,.bool false] w fun e w'=>e= .returned (.bool ((decide (dn=0)) && (Gid.none ⟨⟨at_,ar⟩,ai⟩) && (Gid.none ⟨⟨et,er⟩,ei⟩) && (decide (text.data.toList=[])) && (decide (en=0))))∧Below w.heap.size w w':=by
 obtain⟨ans,ha⟩:∃a,a=((decide (dn=0)) && (Gid.none ⟨⟨at_,ar⟩,ai⟩) && (Gid.none ⟨⟨et,er⟩,ei⟩) && (decide (text.data.toList=[])) && (decide (en=0))):=⟨_,rfl⟩
 rw[←ha]
 have HV:=hid ha
 have HVT:=hid (show ans=true by rw[ha];exact hvt)
 clear hvt
 clear ha
 obtain⟨W,hW⟩:∃W,W=w.alloc (.cells #[.int .i64 k,.int .i64 nt,.int .i64 nr,.int .i64 ni,.int .i64 pt,.int .i64 pr,.int .i64 pi,.string name,.bool dir,.slice dA dn dc,.int .i64 at_,.int .i64 ar,.int .i64 ai,.int .i64 et,.int .i64 er,.int .i64 ei,.string text,.slice eA en ec] 125):=⟨_,rfl⟩
 have hBW:Below w.heap.size w W:=by subst hW;exact(Below.refl _ _).alloc (Nat.le_refl _) _
 have hA:W.heap[w.heap.size]? =some (.cells #[.int .i64 k,.int .i64 nt,.int .i64 nr,.int .i64 ni,.int .i64 pt,.int .i64 pr,.int .i64 pi,.string name,.bool dir,.slice dA dn dc,.int .i64 at_,.int .i64 ar,.int .i64 ai,.int .i64 et,.int .i64 er,.int .i64 ei,.string text,.slice eA en ec] 125 (0,0)):=by subst hW;exact heap_alloc_new _ _
 have HW:=hid hW
 have HA:=hid hA
 have hlt:w.heap.size<W.heap.size:=by subst hW;simp
 clear hW hA
 by_cases h_dl0:dn=0
 rotate_left
 ·have h_dl:decide (dn=0)=false:=decide_eq_false h_dl0
  obtain rfl:ans=false:=by rw[HV.out];simp only[h_dl,Bool.and_false,Bool.false_and,Bool.and_true,Bool.true_and]
  exact absurd HVT.out (by decide)
 have h_dl:decide (dn=0)=true:=decide_eq_true h_dl0
 cases h_an:Gid.none ⟨⟨at_,ar⟩,ai⟩ with
 |false=>
  obtain rfl:ans=false:=by rw[HV.out];simp only[h_dl,h_an,Bool.and_false,Bool.false_and,Bool.and_true,Bool.true_and]
  exact absurd HVT.out (by decide)
 |true=>
 cases h_en_:Gid.none ⟨⟨et,er⟩,ei⟩ with
 |false=>
  obtain rfl:ans=false:=by rw[HV.out];simp only[h_dl,h_an,h_en_,Bool.and_false,Bool.false_and,Bool.and_true,Bool.true_and]
  exact absurd HVT.out (by decide)
 |true=>
 by_cases h_tx0:text.data.toList=[]
 rotate_left
 ·have h_tx:decide (text.data.toList=[])=false:=decide_eq_false h_tx0
  obtain rfl:ans=false:=by rw[HV.out];simp only[h_dl,h_an,h_en_,h_tx,Bool.and_false,Bool.false_and,Bool.and_true,Bool.true_and]
  exact absurd HVT.out (by decide)
 have h_tx:decide (text.data.toList=[])=true:=decide_eq_true h_tx0
 by_cases h_el0:en=0
 rotate_left
 ·have h_el:decide (en=0)=false:=decide_eq_false h_el0
  obtain rfl:ans=false:=by rw[HV.out];simp only[h_dl,h_an,h_en_,h_tx,h_el,Bool.and_false,Bool.false_and,Bool.and_true,Bool.true_and]
  exact absurd HVT.out (by decide)
 have h_el:decide (en=0)=true:=decide_eq_true h_el0
 obtain rfl:ans=true:=by rw[HV.out];simp only[h_dl,h_an,h_en_,h_tx,h_el,Bool.and_false,Bool.false_and,Bool.and_true,Bool.true_and]
 have s_dl:decide (0<dn)=false:=decide_eq_false (by omega)
 obtain rfl:=bs_nil.1 h_tx0
 have s_el:((en:Int) == 0)=true:=by rw[beq_iff_eq];omega
 have s_el2:decide (en=0)=true:=decide_eq_true h_el0
 have hA_W:W.heap[w.heap.size]? =some (.cells #[.int .i64 k,.int .i64 nt,.int .i64 nr,.int .i64 ni,.int .i64 pt,.int .i64 pr,.int .i64 pi,.string name,.bool dir,.slice dA dn dc,.int .i64 at_,.int .i64 ar,.int .i64 ai,.int .i64 et,.int .i64 er,.int .i64 ei,.string ⟨#[]⟩,.slice eA en ec] 125 (0,0)):=HA.out
 have x4:=rg4 hA_W
 have x5:=rg5 hA_W
 have x6:=rg6 hA_W
 have x7:=rg7 hA_W
 have x8:=rg8 hA_W
 have x9:=rg9 hA_W
 have x10:=rg10 hA_W
 have x11:=rg11 hA_W
 have x12:=rg12 hA_W
 have x13:=rg13 hA_W
 have x14:=rg14 hA_W
 have x15:=rg15 hA_W
 have x16:=rg16 hA_W
 have x17:=rg17 hA_W
 clear hA_W
 have H_an:=hid h_an
 have H_en_:=hid h_en_
 clear h_an h_en_ h_tx h_tx0 h_dl0 h_el0 h_dl h_el
 go_enter Tryz.func160,Tryz.ntmps160
 go_upto_region 1 with(fail)
 rw[←HW.out]
 refine wp_plain_quiet_below ?_
 repeat(any_goals(first|go_big_quiet_step (fail)|quiet_step (fail)))
 refine qz fun wq hBq=> ?_
 have hB1:=hBW.trans (hBq.mono hBW.size)
 have hA1:=(hBq.block _ hlt).trans HA.out
 have HA1:=hid hA1
 clear hA1 hBq x4 x5 x6 x7 x8 x9 x10 x11 x12 x13 x14 x15 x16 x17
 obtain⟨W1,hW1⟩:∃W1,W1=wq:=⟨_,rfl⟩
 rw[←hW1] at hB1 HA1 ⊢
 clear hW1
 go_upto_region 3 with(fail)
 have hA_W1:W1.heap[w.heap.size]? =some (.cells #[.int .i64 k,.int .i64 nt,.int .i64 nr,.int .i64 ni,.int .i64 pt,.int .i64 pr,.int .i64 pi,.string name,.bool dir,.slice dA dn dc,.int .i64 at_,.int .i64 ar,.int .i64 ai,.int .i64 et,.int .i64 er,.int .i64 ei,.string ⟨#[]⟩,.slice eA en ec] 125 (0,0)):=HA1.out
 have x4:=rg4 hA_W1
 have x5:=rg5 hA_W1
 have x6:=rg6 hA_W1
 have x7:=rg7 hA_W1
 have x8:=rg8 hA_W1
 have x9:=rg9 hA_W1
 have x10:=rg10 hA_W1
 have x11:=rg11 hA_W1
 have x12:=rg12 hA_W1
 have x13:=rg13 hA_W1
 have x14:=rg14 hA_W1
 have x15:=rg15 hA_W1
 have x16:=rg16 hA_W1
 have x17:=rg17 hA_W1
 clear hA_W1
 have h_an:=H_an.out
 have h_en_:=H_en_.out
 have c_an:=fun d os=>Calls.regrown_of (refnone_any at_ ar ai (grow (redrawn W1 d) os))
 rw[h_an] at c_an
 have c_en_:=fun d os=>Calls.regrown_of (refnone_any et er ei (grow (redrawn W1 d) os))
 rw[h_en_] at c_en_
 clear h_an h_en_
 refine wp_plain_quiet_below ?_
 repeat(any_goals(first|go_big_quiet_step (with_reducible first|exact c_an _ _|exact c_en_ _ _)|quiet_step (with_reducible first|exact c_an _ _|exact c_en_ _ _)))
 refine qz fun wq hBq=> ?_
 go_wp2
 go_ret
 exact⟨rfl,hB1.trans (hBq.mono hB1.size)⟩
theorem vbare_1 (k nt nr ni pt pr pi:Int) (name:ByteArray) (dir:Bool) (dA:Option Addr) (dn dc:Nat) (at_ ar ai et er ei:Int) (text:ByteArray) (eA:Option Addr) (en ec:Nat) (w:World) (hvt:((!dir) && (decide (dn=0)) && (Gid.none ⟨⟨at_,ar⟩,ai⟩) && (Gid.none ⟨⟨et,er⟩,ei⟩) && (decide (text.data.toList=[])) && (decide (en=0)))=true):
  Calls Tryz.prog 160 #[.agg #[.int .i64 k,.int .i64 nt,.int .i64 nr,.int .i64 ni,.int .i64 pt,.int .i64 pr,.int .i64 pi,.string name,.bool dir,.slice dA dn dc,.int .i64 at_,.int .i64 ar,.int .i64 ai,.int .i64 et,.int .i64 er,.int .i64 ei,.string text,.slice eA en ec],.bool true,.bool false,.bool false,.bool false,.bool false] w fun e w'=>e= .returned (.bool ((!dir) && (decide (dn=0)) && (Gid.none ⟨⟨at_,ar⟩,ai⟩) && (Gid.none ⟨⟨et,er⟩,ei⟩) && (decide (text.data.toList=[])) && (decide (en=0))))∧Below w.heap.size w w':=by
 obtain⟨ans,ha⟩:∃a,a=((!dir) && (decide (dn=0)) && (Gid.none ⟨⟨at_,ar⟩,ai⟩) && (Gid.none ⟨⟨et,er⟩,ei⟩) && (decide (text.data.toList=[])) && (decide (en=0))):=⟨_,rfl⟩
 rw[←ha]
 have HV:=hid ha
 have HVT:=hid (show ans=true by rw[ha];exact hvt)
 clear hvt
 clear ha
 obtain⟨W,hW⟩:∃W,W=w.alloc (.cells #[.int .i64 k,.int .i64 nt,.int .i64 nr,.int .i64 ni,.int .i64 pt,.int .i64 pr,.int .i64 pi,.string name,.bool dir,.slice dA dn dc,.int .i64 at_,.int .i64 ar,.int .i64 ai,.int .i64 et,.int .i64 er,.int .i64 ei,.string text,.slice eA en ec] 125):=⟨_,rfl⟩
 have hBW:Below w.heap.size w W:=by subst hW;exact(Below.refl _ _).alloc (Nat.le_refl _) _
 have hA:W.heap[w.heap.size]? =some (.cells #[.int .i64 k,.int .i64 nt,.int .i64 nr,.int .i64 ni,.int .i64 pt,.int .i64 pr,.int .i64 pi,.string name,.bool dir,.slice dA dn dc,.int .i64 at_,.int .i64 ar,.int .i64 ai,.int .i64 et,.int .i64 er,.int .i64 ei,.string text,.slice eA en ec] 125 (0,0)):=by subst hW;exact heap_alloc_new _ _
 have HW:=hid hW
 have HA:=hid hA
 have hlt:w.heap.size<W.heap.size:=by subst hW;simp
 clear hW hA
 cases h_d:(!dir) with
 |false=>
  obtain rfl:ans=false:=by rw[HV.out];simp only[h_d,Bool.and_false,Bool.false_and,Bool.and_true,Bool.true_and]
  exact absurd HVT.out (by decide)
 |true=>
 by_cases h_dl0:dn=0
 rotate_left
 ·have h_dl:decide (dn=0)=false:=decide_eq_false h_dl0
  obtain rfl:ans=false:=by rw[HV.out];simp only[h_d,h_dl,Bool.and_false,Bool.false_and,Bool.and_true,Bool.true_and]
  exact absurd HVT.out (by decide)
 have h_dl:decide (dn=0)=true:=decide_eq_true h_dl0
 cases h_an:Gid.none ⟨⟨at_,ar⟩,ai⟩ with
 |false=>
  obtain rfl:ans=false:=by rw[HV.out];simp only[h_d,h_dl,h_an,Bool.and_false,Bool.false_and,Bool.and_true,Bool.true_and]
  exact absurd HVT.out (by decide)
 |true=>
 cases h_en_:Gid.none ⟨⟨et,er⟩,ei⟩ with
 |false=>
  obtain rfl:ans=false:=by rw[HV.out];simp only[h_d,h_dl,h_an,h_en_,Bool.and_false,Bool.false_and,Bool.and_true,Bool.true_and]
  exact absurd HVT.out (by decide)
 |true=>
 by_cases h_tx0:text.data.toList=[]
 rotate_left
 ·have h_tx:decide (text.data.toList=[])=false:=decide_eq_false h_tx0
  obtain rfl:ans=false:=by rw[HV.out];simp only[h_d,h_dl,h_an,h_en_,h_tx,Bool.and_false,Bool.false_and,Bool.and_true,Bool.true_and]
  exact absurd HVT.out (by decide)
 have h_tx:decide (text.data.toList=[])=true:=decide_eq_true h_tx0
 by_cases h_el0:en=0
 rotate_left
 ·have h_el:decide (en=0)=false:=decide_eq_false h_el0
  obtain rfl:ans=false:=by rw[HV.out];simp only[h_d,h_dl,h_an,h_en_,h_tx,h_el,Bool.and_false,Bool.false_and,Bool.and_true,Bool.true_and]
  exact absurd HVT.out (by decide)
 have h_el:decide (en=0)=true:=decide_eq_true h_el0
 obtain rfl:ans=true:=by rw[HV.out];simp only[h_d,h_dl,h_an,h_en_,h_tx,h_el,Bool.and_false,Bool.false_and,Bool.and_true,Bool.true_and]
 obtain rfl:dir=false:=by simpa using h_d
 have s_dl:decide (0<dn)=false:=decide_eq_false (by omega)
 obtain rfl:=bs_nil.1 h_tx0
 have s_el:((en:Int) == 0)=true:=by rw[beq_iff_eq];omega
 have s_el2:decide (en=0)=true:=decide_eq_true h_el0
 have hA_W:W.heap[w.heap.size]? =some (.cells #[.int .i64 k,.int .i64 nt,.int .i64 nr,.int .i64 ni,.int .i64 pt,.int .i64 pr,.int .i64 pi,.string name,.bool false,.slice dA dn dc,.int .i64 at_,.int .i64 ar,.int .i64 ai,.int .i64 et,.int .i64 er,.int .i64 ei,.string ⟨#[]⟩,.slice eA en ec] 125 (0,0)):=HA.out
 have x4:=rg4 hA_W
 have x5:=rg5 hA_W
 have x6:=rg6 hA_W
 have x7:=rg7 hA_W
 have x8:=rg8 hA_W
 have x9:=rg9 hA_W
 have x10:=rg10 hA_W
 have x11:=rg11 hA_W
 have x12:=rg12 hA_W
 have x13:=rg13 hA_W
 have x14:=rg14 hA_W
 have x15:=rg15 hA_W
 have x16:=rg16 hA_W
 have x17:=rg17 hA_W
 clear hA_W
 have H_an:=hid h_an
 have H_en_:=hid h_en_
 clear h_d h_an h_en_ h_tx h_tx0 h_dl0 h_el0 h_dl h_el
 go_enter Tryz.func160,Tryz.ntmps160
 go_upto_region 1 with(fail)
 rw[←HW.out]
 refine wp_plain_quiet_below ?_
 repeat(any_goals(first|go_big_quiet_step (fail)|quiet_step (fail)))
 refine qz fun wq hBq=> ?_
 have hB1:=hBW.trans (hBq.mono hBW.size)
 have hA1:=(hBq.block _ hlt).trans HA.out
 have HA1:=hid hA1
 clear hA1 hBq x4 x5 x6 x7 x8 x9 x10 x11 x12 x13 x14 x15 x16 x17
 obtain⟨W1,hW1⟩:∃W1,W1=wq:=⟨_,rfl⟩
 rw[←hW1] at hB1 HA1 ⊢
 clear hW1
 go_upto_region 3 with(fail)
 have hA_W1:W1.heap[w.heap.size]? =some (.cells #[.int .i64 k,.int .i64 nt,.int .i64 nr,.int .i64 ni,.int .i64 pt,.int .i64 pr,.int .i64 pi,.string name,.bool false,.slice dA dn dc,.int .i64 at_,.int .i64 ar,.int .i64 ai,.int .i64 et,.int .i64 er,.int .i64 ei,.string ⟨#[]⟩,.slice eA en ec] 125 (0,0)):=HA1.out
 have x4:=rg4 hA_W1
 have x5:=rg5 hA_W1
 have x6:=rg6 hA_W1
 have x7:=rg7 hA_W1
 have x8:=rg8 hA_W1
 have x9:=rg9 hA_W1
 have x10:=rg10 hA_W1
 have x11:=rg11 hA_W1
 have x12:=rg12 hA_W1
 have x13:=rg13 hA_W1
 have x14:=rg14 hA_W1
 have x15:=rg15 hA_W1
 have x16:=rg16 hA_W1
 have x17:=rg17 hA_W1
 clear hA_W1
 have h_an:=H_an.out
 have h_en_:=H_en_.out
 have c_an:=fun d os=>Calls.regrown_of (refnone_any at_ ar ai (grow (redrawn W1 d) os))
 rw[h_an] at c_an
 have c_en_:=fun d os=>Calls.regrown_of (refnone_any et er ei (grow (redrawn W1 d) os))
 rw[h_en_] at c_en_
 clear h_an h_en_
 refine wp_plain_quiet_below ?_
 repeat(any_goals(first|go_big_quiet_step (with_reducible first|exact c_an _ _|exact c_en_ _ _)|quiet_step (with_reducible first|exact c_an _ _|exact c_en_ _ _)))
 refine qz fun wq hBq=> ?_
 go_wp2
 go_ret
 exact⟨rfl,hB1.trans (hBq.mono hB1.size)⟩
theorem vbare_2 (k nt nr ni pt pr pi:Int) (name:ByteArray) (dir:Bool) (dA:Option Addr) (dn dc:Nat) (at_ ar ai et er ei:Int) (text:ByteArray) (eA:Option Addr) (en ec:Nat) (w:World) (hvt:((Gid.none ⟨⟨pt,pr⟩,pi⟩) && (decide (name.data.toList=[])) && (!dir) && (Gid.none ⟨⟨at_,ar⟩,ai⟩) && (Gid.none ⟨⟨et,er⟩,ei⟩) && (decide (text.data.toList=[])) && (decide (en=0)))=true):
  Calls Tryz.prog 160 #[.agg #[.int .i64 k,.int .i64 nt,.int .i64 nr,.int .i64 ni,.int .i64 pt,.int .i64 pr,.int .i64 pi,.string name,.bool dir,.slice dA dn dc,.int .i64 at_,.int .i64 ar,.int .i64 ai,.int .i64 et,.int .i64 er,.int .i64 ei,.string text,.slice eA en ec],.bool false,.bool false,.bool true,.bool false,.bool false] w fun e w'=>e= .returned (.bool ((Gid.none ⟨⟨pt,pr⟩,pi⟩) && (decide (name.data.toList=[])) && (!dir) && (Gid.none ⟨⟨at_,ar⟩,ai⟩) && (Gid.none ⟨⟨et,er⟩,ei⟩) && (decide (text.data.toList=[])) && (decide (en=0))))∧Below w.heap.size w w':=by
 obtain⟨ans,ha⟩:∃a,a=((Gid.none ⟨⟨pt,pr⟩,pi⟩) && (decide (name.data.toList=[])) && (!dir) && (Gid.none ⟨⟨at_,ar⟩,ai⟩) && (Gid.none ⟨⟨et,er⟩,ei⟩) && (decide (text.data.toList=[])) && (decide (en=0))):=⟨_,rfl⟩
 rw[←ha]
 have HV:=hid ha
 have HVT:=hid (show ans=true by rw[ha];exact hvt)
 clear hvt
 clear ha
 obtain⟨W,hW⟩:∃W,W=w.alloc (.cells #[.int .i64 k,.int .i64 nt,.int .i64 nr,.int .i64 ni,.int .i64 pt,.int .i64 pr,.int .i64 pi,.string name,.bool dir,.slice dA dn dc,.int .i64 at_,.int .i64 ar,.int .i64 ai,.int .i64 et,.int .i64 er,.int .i64 ei,.string text,.slice eA en ec] 125):=⟨_,rfl⟩
 have hBW:Below w.heap.size w W:=by subst hW;exact(Below.refl _ _).alloc (Nat.le_refl _) _
 have hA:W.heap[w.heap.size]? =some (.cells #[.int .i64 k,.int .i64 nt,.int .i64 nr,.int .i64 ni,.int .i64 pt,.int .i64 pr,.int .i64 pi,.string name,.bool dir,.slice dA dn dc,.int .i64 at_,.int .i64 ar,.int .i64 ai,.int .i64 et,.int .i64 er,.int .i64 ei,.string text,.slice eA en ec] 125 (0,0)):=by subst hW;exact heap_alloc_new _ _
 have HW:=hid hW
 have HA:=hid hA
 have hlt:w.heap.size<W.heap.size:=by subst hW;simp
 clear hW hA
 cases h_pn:Gid.none ⟨⟨pt,pr⟩,pi⟩ with
 |false=>
  obtain rfl:ans=false:=by rw[HV.out];simp only[h_pn,Bool.and_false,Bool.false_and,Bool.and_true,Bool.true_and]
  exact absurd HVT.out (by decide)
 |true=>
 by_cases h_nm0:name.data.toList=[]
 rotate_left
 ·have h_nm:decide (name.data.toList=[])=false:=decide_eq_false h_nm0
  obtain rfl:ans=false:=by rw[HV.out];simp only[h_pn,h_nm,Bool.and_false,Bool.false_and,Bool.and_true,Bool.true_and]
  exact absurd HVT.out (by decide)
 have h_nm:decide (name.data.toList=[])=true:=decide_eq_true h_nm0
 cases h_d:(!dir) with
 |false=>
  obtain rfl:ans=false:=by rw[HV.out];simp only[h_pn,h_nm,h_d,Bool.and_false,Bool.false_and,Bool.and_true,Bool.true_and]
  exact absurd HVT.out (by decide)
 |true=>
 cases h_an:Gid.none ⟨⟨at_,ar⟩,ai⟩ with
 |false=>
  obtain rfl:ans=false:=by rw[HV.out];simp only[h_pn,h_nm,h_d,h_an,Bool.and_false,Bool.false_and,Bool.and_true,Bool.true_and]
  exact absurd HVT.out (by decide)
 |true=>
 cases h_en_:Gid.none ⟨⟨et,er⟩,ei⟩ with
 |false=>
  obtain rfl:ans=false:=by rw[HV.out];simp only[h_pn,h_nm,h_d,h_an,h_en_,Bool.and_false,Bool.false_and,Bool.and_true,Bool.true_and]
  exact absurd HVT.out (by decide)
 |true=>
 by_cases h_tx0:text.data.toList=[]
 rotate_left
 ·have h_tx:decide (text.data.toList=[])=false:=decide_eq_false h_tx0
  obtain rfl:ans=false:=by rw[HV.out];simp only[h_pn,h_nm,h_d,h_an,h_en_,h_tx,Bool.and_false,Bool.false_and,Bool.and_true,Bool.true_and]
  exact absurd HVT.out (by decide)
 have h_tx:decide (text.data.toList=[])=true:=decide_eq_true h_tx0
 by_cases h_el0:en=0
 rotate_left
 ·have h_el:decide (en=0)=false:=decide_eq_false h_el0
  obtain rfl:ans=false:=by rw[HV.out];simp only[h_pn,h_nm,h_d,h_an,h_en_,h_tx,h_el,Bool.and_false,Bool.false_and,Bool.and_true,Bool.true_and]
  exact absurd HVT.out (by decide)
 have h_el:decide (en=0)=true:=decide_eq_true h_el0
 obtain rfl:ans=true:=by rw[HV.out];simp only[h_pn,h_nm,h_d,h_an,h_en_,h_tx,h_el,Bool.and_false,Bool.false_and,Bool.and_true,Bool.true_and]
 obtain rfl:=bs_nil.1 h_nm0
 obtain rfl:dir=false:=by simpa using h_d
 obtain rfl:=bs_nil.1 h_tx0
 have s_el:((en:Int) == 0)=true:=by rw[beq_iff_eq];omega
 have s_el2:decide (en=0)=true:=decide_eq_true h_el0
 have hA_W:W.heap[w.heap.size]? =some (.cells #[.int .i64 k,.int .i64 nt,.int .i64 nr,.int .i64 ni,.int .i64 pt,.int .i64 pr,.int .i64 pi,.string ⟨#[]⟩,.bool false,.slice dA dn dc,.int .i64 at_,.int .i64 ar,.int .i64 ai,.int .i64 et,.int .i64 er,.int .i64 ei,.string ⟨#[]⟩,.slice eA en ec] 125 (0,0)):=HA.out
 have x4:=rg4 hA_W
 have x5:=rg5 hA_W
 have x6:=rg6 hA_W
 have x7:=rg7 hA_W
 have x8:=rg8 hA_W
 have x9:=rg9 hA_W
 have x10:=rg10 hA_W
 have x11:=rg11 hA_W
 have x12:=rg12 hA_W
 have x13:=rg13 hA_W
 have x14:=rg14 hA_W
 have x15:=rg15 hA_W
 have x16:=rg16 hA_W
 have x17:=rg17 hA_W
 clear hA_W
 have c_pn:=fun d os=>Calls.regrown_of (refnone_any pt pr pi (grow (redrawn W d) os))
 rw[h_pn] at c_pn
 have H_an:=hid h_an
 have H_en_:=hid h_en_
 clear h_pn h_nm h_d h_an h_en_ h_tx h_nm0 h_tx0 h_el0 h_el
 go_enter Tryz.func160,Tryz.ntmps160
 go_upto_region 1 with(fail)
 rw[←HW.out]
 refine wp_plain_quiet_below ?_
 repeat(any_goals(first|go_big_quiet_step (with_reducible first|exact c_pn _ _)|quiet_step (with_reducible first|exact c_pn _ _)))
 refine qz fun wq hBq=> ?_
 have hB1:=hBW.trans (hBq.mono hBW.size)
 have hA1:=(hBq.block _ hlt).trans HA.out
 have HA1:=hid hA1
 clear hA1 hBq x4 x5 x6 x7 x8 x9 x10 x11 x12 x13 x14 x15 x16 x17 c_pn
 obtain⟨W1,hW1⟩:∃W1,W1=wq:=⟨_,rfl⟩
 rw[←hW1] at hB1 HA1 ⊢
 clear hW1
 go_upto_region 3 with(fail)
 have hA_W1:W1.heap[w.heap.size]? =some (.cells #[.int .i64 k,.int .i64 nt,.int .i64 nr,.int .i64 ni,.int .i64 pt,.int .i64 pr,.int .i64 pi,.string ⟨#[]⟩,.bool false,.slice dA dn dc,.int .i64 at_,.int .i64 ar,.int .i64 ai,.int .i64 et,.int .i64 er,.int .i64 ei,.string ⟨#[]⟩,.slice eA en ec] 125 (0,0)):=HA1.out
 have x4:=rg4 hA_W1
 have x5:=rg5 hA_W1
 have x6:=rg6 hA_W1
 have x7:=rg7 hA_W1
 have x8:=rg8 hA_W1
 have x9:=rg9 hA_W1
 have x10:=rg10 hA_W1
 have x11:=rg11 hA_W1
 have x12:=rg12 hA_W1
 have x13:=rg13 hA_W1
 have x14:=rg14 hA_W1
 have x15:=rg15 hA_W1
 have x16:=rg16 hA_W1
 have x17:=rg17 hA_W1
 clear hA_W1
 have h_an:=H_an.out
 have h_en_:=H_en_.out
 have c_an:=fun d os=>Calls.regrown_of (refnone_any at_ ar ai (grow (redrawn W1 d) os))
 rw[h_an] at c_an
 have c_en_:=fun d os=>Calls.regrown_of (refnone_any et er ei (grow (redrawn W1 d) os))
 rw[h_en_] at c_en_
 clear h_an h_en_
 refine wp_plain_quiet_below ?_
 repeat(any_goals(first|go_big_quiet_step (with_reducible first|exact c_an _ _|exact c_en_ _ _)|quiet_step (with_reducible first|exact c_an _ _|exact c_en_ _ _)))
 refine qz fun wq hBq=> ?_
 go_wp2
 go_ret
 exact⟨rfl,hB1.trans (hBq.mono hB1.size)⟩
end
section
open Go.RowKit Go.Lib Go.Sort
set_option linter.unusedVariables false
set_option linter.unusedSimpArgs false
theorem vbare_3 (k nt nr ni pt pr pi:Int) (name:ByteArray) (dir:Bool) (dA:Option Addr) (dn dc:Nat) (at_ ar ai et er ei:Int) (text:ByteArray) (eA:Option Addr) (en ec:Nat) (w:World) (hvt:((Gid.none ⟨⟨pt,pr⟩,pi⟩) && (decide (name.data.toList=[])) && (!dir) && (decide (dn=0)) && (decide (en=0)))=true):
  Calls Tryz.prog 160 #[.agg #[.int .i64 k,.int .i64 nt,.int .i64 nr,.int .i64 ni,.int .i64 pt,.int .i64 pr,.int .i64 pi,.string name,.bool dir,.slice dA dn dc,.int .i64 at_,.int .i64 ar,.int .i64 ai,.int .i64 et,.int .i64 er,.int .i64 ei,.string text,.slice eA en ec],.bool false,.bool false,.bool false,.bool true,.bool false] w fun e w'=>e= .returned (.bool ((Gid.none ⟨⟨pt,pr⟩,pi⟩) && (decide (name.data.toList=[])) && (!dir) && (decide (dn=0)) && (decide (en=0))))∧Below w.heap.size w w':=by
 obtain⟨ans,ha⟩:∃a,a=((Gid.none ⟨⟨pt,pr⟩,pi⟩) && (decide (name.data.toList=[])) && (!dir) && (decide (dn=0)) && (decide (en=0))):=⟨_,rfl⟩
 rw[←ha]
 have HV:=hid ha
 have HVT:=hid (show ans=true by rw[ha];exact hvt)
 clear hvt
 clear ha
 obtain⟨W,hW⟩:∃W,W=w.alloc (.cells #[.int .i64 k,.int .i64 nt,.int .i64 nr,.int .i64 ni,.int .i64 pt,.int .i64 pr,.int .i64 pi,.string name,.bool dir,.slice dA dn dc,.int .i64 at_,.int .i64 ar,.int .i64 ai,.int .i64 et,.int .i64 er,.int .i64 ei,.string text,.slice eA en ec] 125):=⟨_,rfl⟩
 have hBW:Below w.heap.size w W:=by subst hW;exact(Below.refl _ _).alloc (Nat.le_refl _) _
 have hA:W.heap[w.heap.size]? =some (.cells #[.int .i64 k,.int .i64 nt,.int .i64 nr,.int .i64 ni,.int .i64 pt,.int .i64 pr,.int .i64 pi,.string name,.bool dir,.slice dA dn dc,.int .i64 at_,.int .i64 ar,.int .i64 ai,.int .i64 et,.int .i64 er,.int .i64 ei,.string text,.slice eA en ec] 125 (0,0)):=by subst hW;exact heap_alloc_new _ _
 have HW:=hid hW
 have HA:=hid hA
 have hlt:w.heap.size<W.heap.size:=by subst hW;simp
 clear hW hA
 cases h_pn:Gid.none ⟨⟨pt,pr⟩,pi⟩ with
 |false=>
  obtain rfl:ans=false:=by rw[HV.out];simp only[h_pn,Bool.and_false,Bool.false_and,Bool.and_true,Bool.true_and]
  exact absurd HVT.out (by decide)
 |true=>
 by_cases h_nm0:name.data.toList=[]
 rotate_left
 ·have h_nm:decide (name.data.toList=[])=false:=decide_eq_false h_nm0
  obtain rfl:ans=false:=by rw[HV.out];simp only[h_pn,h_nm,Bool.and_false,Bool.false_and,Bool.and_true,Bool.true_and]
  exact absurd HVT.out (by decide)
 have h_nm:decide (name.data.toList=[])=true:=decide_eq_true h_nm0
 cases h_d:(!dir) with
 |false=>
  obtain rfl:ans=false:=by rw[HV.out];simp only[h_pn,h_nm,h_d,Bool.and_false,Bool.false_and,Bool.and_true,Bool.true_and]
  exact absurd HVT.out (by decide)
 |true=>
 by_cases h_dl0:dn=0
 rotate_left
 ·have h_dl:decide (dn=0)=false:=decide_eq_false h_dl0
  obtain rfl:ans=false:=by rw[HV.out];simp only[h_pn,h_nm,h_d,h_dl,Bool.and_false,Bool.false_and,Bool.and_true,Bool.true_and]
  exact absurd HVT.out (by decide)
 have h_dl:decide (dn=0)=true:=decide_eq_true h_dl0
 by_cases h_el0:en=0
 rotate_left
 ·have h_el:decide (en=0)=false:=decide_eq_false h_el0
  obtain rfl:ans=false:=by rw[HV.out];simp only[h_pn,h_nm,h_d,h_dl,h_el,Bool.and_false,Bool.false_and,Bool.and_true,Bool.true_and]
  exact absurd HVT.out (by decide)
 have h_el:decide (en=0)=true:=decide_eq_true h_el0
 obtain rfl:ans=true:=by rw[HV.out];simp only[h_pn,h_nm,h_d,h_dl,h_el,Bool.and_false,Bool.false_and,Bool.and_true,Bool.true_and]
 obtain rfl:=bs_nil.1 h_nm0
 obtain rfl:dir=false:=by simpa using h_d
 have s_dl:decide (0<dn)=false:=decide_eq_false (by omega)
 have s_el:((en:Int) == 0)=true:=by rw[beq_iff_eq];omega
 have s_el2:decide (en=0)=true:=decide_eq_true h_el0
 have hA_W:W.heap[w.heap.size]? =some (.cells #[.int .i64 k,.int .i64 nt,.int .i64 nr,.int .i64 ni,.int .i64 pt,.int .i64 pr,.int .i64 pi,.string ⟨#[]⟩,.bool false,.slice dA dn dc,.int .i64 at_,.int .i64 ar,.int .i64 ai,.int .i64 et,.int .i64 er,.int .i64 ei,.string text,.slice eA en ec] 125 (0,0)):=HA.out
 have x4:=rg4 hA_W
 have x5:=rg5 hA_W
 have x6:=rg6 hA_W
 have x7:=rg7 hA_W
 have x8:=rg8 hA_W
 have x9:=rg9 hA_W
 have x10:=rg10 hA_W
 have x11:=rg11 hA_W
 have x12:=rg12 hA_W
 have x13:=rg13 hA_W
 have x14:=rg14 hA_W
 have x15:=rg15 hA_W
 have x16:=rg16 hA_W
 have x17:=rg17 hA_W
 clear hA_W
 have c_pn:=fun d os=>Calls.regrown_of (refnone_any pt pr pi (grow (redrawn W d) os))
 rw[h_pn] at c_pn
 clear h_pn h_nm h_d h_nm0 h_dl0 h_el0 h_dl h_el
 go_enter Tryz.func160,Tryz.ntmps160
 go_upto_region 1 with(fail)
 rw[←HW.out]
 refine wp_plain_quiet_below ?_
 repeat(any_goals(first|go_big_quiet_step (with_reducible first|exact c_pn _ _)|quiet_step (with_reducible first|exact c_pn _ _)))
 refine qz fun wq hBq=> ?_
 have hB1:=hBW.trans (hBq.mono hBW.size)
 have hA1:=(hBq.block _ hlt).trans HA.out
 have HA1:=hid hA1
 clear hA1 hBq x4 x5 x6 x7 x8 x9 x10 x11 x12 x13 x14 x15 x16 x17 c_pn
 obtain⟨W1,hW1⟩:∃W1,W1=wq:=⟨_,rfl⟩
 rw[←hW1] at hB1 HA1 ⊢
 clear hW1
 go_upto_region 3 with(fail)
 have hA_W1:W1.heap[w.heap.size]? =some (.cells #[.int .i64 k,.int .i64 nt,.int .i64 nr,.int .i64 ni,.int .i64 pt,.int .i64 pr,.int .i64 pi,.string ⟨#[]⟩,.bool false,.slice dA dn dc,.int .i64 at_,.int .i64 ar,.int .i64 ai,.int .i64 et,.int .i64 er,.int .i64 ei,.string text,.slice eA en ec] 125 (0,0)):=HA1.out
 have x4:=rg4 hA_W1
 have x5:=rg5 hA_W1
 have x6:=rg6 hA_W1
 have x7:=rg7 hA_W1
 have x8:=rg8 hA_W1
 have x9:=rg9 hA_W1
 have x10:=rg10 hA_W1
 have x11:=rg11 hA_W1
 have x12:=rg12 hA_W1
 have x13:=rg13 hA_W1
 have x14:=rg14 hA_W1
 have x15:=rg15 hA_W1
 have x16:=rg16 hA_W1
 have x17:=rg17 hA_W1
 clear hA_W1
 refine wp_plain_quiet_below ?_
 repeat(any_goals(first|go_big_quiet_step (fail)|quiet_step (fail)))
 refine qz fun wq hBq=> ?_
 go_wp2
 go_ret
 exact⟨rfl,hB1.trans (hBq.mono hB1.size)⟩
theorem vbare_4 (k nt nr ni pt pr pi:Int) (name:ByteArray) (dir:Bool) (dA:Option Addr) (dn dc:Nat) (at_ ar ai et er ei:Int) (text:ByteArray) (eA:Option Addr) (en ec:Nat) (w:World) (hvt:((Gid.none ⟨⟨pt,pr⟩,pi⟩) && (decide (name.data.toList=[])) && (!dir) && (decide (dn=0)) && (Gid.none ⟨⟨at_,ar⟩,ai⟩) && (Gid.none ⟨⟨et,er⟩,ei⟩) && (decide (text.data.toList=[])))=true):
  Calls Tryz.prog 160 #[.agg #[.int .i64 k,.int .i64 nt,.int .i64 nr,.int .i64 ni,.int .i64 pt,.int .i64 pr,.int .i64 pi,.string name,.bool dir,.slice dA dn dc,.int .i64 at_,.int .i64 ar,.int .i64 ai,.int .i64 et,.int .i64 er,.int .i64 ei,.string text,.slice eA en ec],.bool false,.bool false,.bool false,.bool false,.bool true] w fun e w'=>e= .returned (.bool ((Gid.none ⟨⟨pt,pr⟩,pi⟩) && (decide (name.data.toList=[])) && (!dir) && (decide (dn=0)) && (Gid.none ⟨⟨at_,ar⟩,ai⟩) && (Gid.none ⟨⟨et,er⟩,ei⟩) && (decide (text.data.toList=[]))))∧Below w.heap.size w w':=by
 obtain⟨ans,ha⟩:∃a,a=((Gid.none ⟨⟨pt,pr⟩,pi⟩) && (decide (name.data.toList=[])) && (!dir) && (decide (dn=0)) && (Gid.none ⟨⟨at_,ar⟩,ai⟩) && (Gid.none ⟨⟨et,er⟩,ei⟩) && (decide (text.data.toList=[]))):=⟨_,rfl⟩
 rw[←ha]
 have HV:=hid ha
 have HVT:=hid (show ans=true by rw[ha];exact hvt)
 clear hvt
 clear ha
 obtain⟨W,hW⟩:∃W,W=w.alloc (.cells #[.int .i64 k,.int .i64 nt,.int .i64 nr,.int .i64 ni,.int .i64 pt,.int .i64 pr,.int .i64 pi,.string name,.bool dir,.slice dA dn dc,.int .i64 at_,.int .i64 ar,.int .i64 ai,.int .i64 et,.int .i64 er,.int .i64 ei,.string text,.slice eA en ec] 125):=⟨_,rfl⟩
 have hBW:Below w.heap.size w W:=by subst hW;exact(Below.refl _ _).alloc (Nat.le_refl _) _
 have hA:W.heap[w.heap.size]? =some (.cells #[.int .i64 k,.int .i64 nt,.int .i64 nr,.int .i64 ni,.int .i64 pt,.int .i64 pr,.int .i64 pi,.string name,.bool dir,.slice dA dn dc,.int .i64 at_,.int .i64 ar,.int .i64 ai,.int .i64 et,.int .i64 er,.int .i64 ei,.string text,.slice eA en ec] 125 (0,0)):=by subst hW;exact heap_alloc_new _ _
 have HW:=hid hW
 have HA:=hid hA
 have hlt:w.heap.size<W.heap.size:=by subst hW;simp
 clear hW hA
 cases h_pn:Gid.none ⟨⟨pt,pr⟩,pi⟩ with
 |false=>
  obtain rfl:ans=false:=by rw[HV.out];simp only[h_pn,Bool.and_false,Bool.false_and,Bool.and_true,Bool.true_and]
  exact absurd HVT.out (by decide)
 |true=>
 by_cases h_nm0:name.data.toList=[]
 rotate_left
 ·have h_nm:decide (name.data.toList=[])=false:=decide_eq_false h_nm0
  obtain rfl:ans=false:=by rw[HV.out];simp only[h_pn,h_nm,Bool.and_false,Bool.false_and,Bool.and_true,Bool.true_and]
  exact absurd HVT.out (by decide)
 have h_nm:decide (name.data.toList=[])=true:=decide_eq_true h_nm0
 cases h_d:(!dir) with
 |false=>
  obtain rfl:ans=false:=by rw[HV.out];simp only[h_pn,h_nm,h_d,Bool.and_false,Bool.false_and,Bool.and_true,Bool.true_and]
  exact absurd HVT.out (by decide)
 |true=>
 by_cases h_dl0:dn=0
 rotate_left
 ·have h_dl:decide (dn=0)=false:=decide_eq_false h_dl0
  obtain rfl:ans=false:=by rw[HV.out];simp only[h_pn,h_nm,h_d,h_dl,Bool.and_false,Bool.false_and,Bool.and_true,Bool.true_and]
  exact absurd HVT.out (by decide)
 have h_dl:decide (dn=0)=true:=decide_eq_true h_dl0
 cases h_an:Gid.none ⟨⟨at_,ar⟩,ai⟩ with
 |false=>
  obtain rfl:ans=false:=by rw[HV.out];simp only[h_pn,h_nm,h_d,h_dl,h_an,Bool.and_false,Bool.false_and,Bool.and_true,Bool.true_and]
  exact absurd HVT.out (by decide)
 |true=>
 cases h_en_:Gid.none ⟨⟨et,er⟩,ei⟩ with
 |false=>
  obtain rfl:ans=false:=by rw[HV.out];simp only[h_pn,h_nm,h_d,h_dl,h_an,h_en_,Bool.and_false,Bool.false_and,Bool.and_true,Bool.true_and]
  exact absurd HVT.out (by decide)
 |true=>
 by_cases h_tx0:text.data.toList=[]
 rotate_left
 ·have h_tx:decide (text.data.toList=[])=false:=decide_eq_false h_tx0
  obtain rfl:ans=false:=by rw[HV.out];simp only[h_pn,h_nm,h_d,h_dl,h_an,h_en_,h_tx,Bool.and_false,Bool.false_and,Bool.and_true,Bool.true_and]
  exact absurd HVT.out (by decide)
 have h_tx:decide (text.data.toList=[])=true:=decide_eq_true h_tx0
 obtain rfl:ans=true:=by rw[HV.out];simp only[h_pn,h_nm,h_d,h_dl,h_an,h_en_,h_tx,Bool.and_false,Bool.false_and,Bool.and_true,Bool.true_and]
 obtain rfl:=bs_nil.1 h_nm0
 obtain rfl:dir=false:=by simpa using h_d
 have s_dl:decide (0<dn)=false:=decide_eq_false (by omega)
 obtain rfl:=bs_nil.1 h_tx0
 have hA_W:W.heap[w.heap.size]? =some (.cells #[.int .i64 k,.int .i64 nt,.int .i64 nr,.int .i64 ni,.int .i64 pt,.int .i64 pr,.int .i64 pi,.string ⟨#[]⟩,.bool false,.slice dA dn dc,.int .i64 at_,.int .i64 ar,.int .i64 ai,.int .i64 et,.int .i64 er,.int .i64 ei,.string ⟨#[]⟩,.slice eA en ec] 125 (0,0)):=HA.out
 have x4:=rg4 hA_W
 have x5:=rg5 hA_W
 have x6:=rg6 hA_W
 have x7:=rg7 hA_W
 have x8:=rg8 hA_W
 have x9:=rg9 hA_W
 have x10:=rg10 hA_W
 have x11:=rg11 hA_W
 have x12:=rg12 hA_W
 have x13:=rg13 hA_W
 have x14:=rg14 hA_W
 have x15:=rg15 hA_W
 have x16:=rg16 hA_W
 have x17:=rg17 hA_W
 clear hA_W
 have c_pn:=fun d os=>Calls.regrown_of (refnone_any pt pr pi (grow (redrawn W d) os))
 rw[h_pn] at c_pn
 have H_an:=hid h_an
 have H_en_:=hid h_en_
 clear h_pn h_nm h_d h_an h_en_ h_tx h_nm0 h_tx0 h_dl0 h_dl
 go_enter Tryz.func160,Tryz.ntmps160
 go_upto_region 1 with(fail)
 rw[←HW.out]
 refine wp_plain_quiet_below ?_
 repeat(any_goals(first|go_big_quiet_step (with_reducible first|exact c_pn _ _)|quiet_step (with_reducible first|exact c_pn _ _)))
 refine qz fun wq hBq=> ?_
 have hB1:=hBW.trans (hBq.mono hBW.size)
 have hA1:=(hBq.block _ hlt).trans HA.out
 have HA1:=hid hA1
 clear hA1 hBq x4 x5 x6 x7 x8 x9 x10 x11 x12 x13 x14 x15 x16 x17 c_pn
 obtain⟨W1,hW1⟩:∃W1,W1=wq:=⟨_,rfl⟩
 rw[←hW1] at hB1 HA1 ⊢
 clear hW1
 go_upto_region 3 with(fail)
 have hA_W1:W1.heap[w.heap.size]? =some (.cells #[.int .i64 k,.int .i64 nt,.int .i64 nr,.int .i64 ni,.int .i64 pt,.int .i64 pr,.int .i64 pi,.string ⟨#[]⟩,.bool false,.slice dA dn dc,.int .i64 at_,.int .i64 ar,.int .i64 ai,.int .i64 et,.int .i64 er,.int .i64 ei,.string ⟨#[]⟩,.slice eA en ec] 125 (0,0)):=HA1.out
 have x4:=rg4 hA_W1
 have x5:=rg5 hA_W1
 have x6:=rg6 hA_W1
 have x7:=rg7 hA_W1
 have x8:=rg8 hA_W1
 have x9:=rg9 hA_W1
 have x10:=rg10 hA_W1
 have x11:=rg11 hA_W1
 have x12:=rg12 hA_W1
 have x13:=rg13 hA_W1
 have x14:=rg14 hA_W1
 have x15:=rg15 hA_W1
 have x16:=rg16 hA_W1
 have x17:=rg17 hA_W1
 clear hA_W1
 have h_an:=H_an.out
 have h_en_:=H_en_.out
 have c_an:=fun d os=>Calls.regrown_of (refnone_any at_ ar ai (grow (redrawn W1 d) os))
 rw[h_an] at c_an
 have c_en_:=fun d os=>Calls.regrown_of (refnone_any et er ei (grow (redrawn W1 d) os))
 rw[h_en_] at c_en_
 clear h_an h_en_
 refine wp_plain_quiet_below ?_
 repeat(any_goals(first|go_big_quiet_step (with_reducible first|exact c_an _ _|exact c_en_ _ _)|quiet_step (with_reducible first|exact c_an _ _|exact c_en_ _ _)))
 refine qz fun wq hBq=> ?_
 go_wp2
 go_ret
 exact⟨rfl,hB1.trans (hBq.mono hB1.size)⟩
end
end
end Go.Proofs.YtkhmicndehlneaaGreatDoor
