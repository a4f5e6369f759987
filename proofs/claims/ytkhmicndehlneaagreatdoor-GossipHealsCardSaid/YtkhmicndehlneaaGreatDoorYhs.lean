/- Part 19 of the walks and plain laws that this claim uses, joined. Conditions: as each theorem states. -/
import Derived.Test.YtkhmicndehlneaaGreatDoorYhr
namespace Go.Proofs.YtkhmicndehlneaaGreatDoor
set_option maxRecDepth 100000
set_option maxHeartbeats 16000000
set_option linter.unusedVariables false
section
open Go.RowKit Go.Lib Go.Sort
attribute [local go_sem ↓] Go.wp_at_zero Go.wp_at_succ
theorem rbnext_any {B P:Nat} {S:Nat->Prop} {b:Bx} {X:RbX} {w:World} (h:RbIn B P S b.done b.wait X w) (ho:RbOk b):
  Calls Tryz.prog 69 #[.pointer (some ⟨P,0,none⟩)] w λe w'=>e= .returned (.int .i64 (bestI (eU b.v b.wait b.wait.length)))∧Below w.heap.size w w':=by
 obtain⟨mw,hmw⟩:∃m,m=b.wait.length:=⟨_,rfl⟩;rw[<-hmw];have hmwl:mw<=100000:=by have:=ho.len;omega
 obtain⟨wA,wc,hwv⟩:=bZ h.wait;have hXM:X.M.length=mw:=by rw[h.wlen,hmw]
 rw[hXM] at hwv;have HMW:=hid hmw;have HXM:=hid hXM;have HWV:=hid hwv;have HRow:=hid (show RowGr w wA X.M from RowGr.own (c:=wc) (by have:=h.wait;rw[hwv,<-hXM] at this;exact this));have HX:=hid h;have HO:=hid ho;clear h ho hmw hXM hwv;go_enter Tryz.func69,Tryz.ntmps69;go_upto_region 3 with fail;go_loopw [3,4] (λc i wr=>∃(k:Nat) (z:Int),k<=mw∧i= .int .i64 k∧c= .int .i64 z∧Hid (z=bestI (eU b.v b.wait k))∧Hid (Below w.heap.size w wr)) (λc i _=>mw-(RowKit.intOf i).toNat)
 case atStart=>exact⟨0,-1,by omega,rfl,rfl,hid rfl,hid (ag _ _)⟩
 case round=>
  obtain⟨k,z,hk,rfl,rfl,HZ,HBr⟩:=hrel;have HBk:=hid (HX.out.below HBr.out);have p1:wr.cell? ⟨P,1,none⟩=some (.slice wA mw wc):=by rw[HBk.out.cell,HWV.out];rfl
  by_cases hlt:k<mw
  ·obtain⟨rb,ro,rfl,hrb,hrange⟩:=RowGr.range (RowGr.below HRow.out HBr.out) (k:=k) (by rw[HXM.out];exact hlt);have i1:(0:Int)<=(k:Int):=by omega
   have i2:(k:Int)<(mw:Int):=by omega
   obtain⟨p,hp⟩:∃p,p=X.M.getD k gp0:=⟨_,rfl⟩;have HGp:=hid (show GrG wr S p by rw[hp];exact HBk.out.good _ (au.2 (.inr (getD_memP (by rw[HXM.out];exact hlt)))));have HPW:=hid (show p.1=b.wait.getD k gz by rw[hp];exact kg _ _ HBk.out.wl k);have HDL:=hid (show p.1.deps.length<=1000 from chk_dl (HO.out.ok.chk _ (by rw[HPW.out];exact au.2 (.inr (gf (by rw[<-HMW.out];exact hlt))))));rw[<-hp] at hrange;clear hp;obtain⟨ga,x⟩:=p;obtain⟨rdy,hrdy⟩:∃z,z=fp b.v ga:=⟨_,rfl⟩;have HRDc:=hid (show ∀W,Below wr.heap.size wr W->Calls Tryz.prog 68 #[.pointer (some ⟨P,0,none⟩),.agg (grA ga x.dA x.dc x.oA x.oc)] W λe w'=>e= .returned (.bool rdy)∧Below W.heap.size W w' from λW hB=>by rw[hrdy];exact rbready_any (HBk.out.below hB) HO.out ga x (HGp.out.agr (Agr.below hB)) HDL.out);have HST:=hid (show eU b.v b.wait (k+1)=if rdy && behB b.wait ga (eU b.v b.wait k) then some k else eU b.v b.wait k by rw[hrdy,show ga=b.wait.getD k gz from HPW.out];rfl);clear hrdy HDL;obtain⟨⟨t,r⟩,n,u,⟨ut,ur⟩,ops⟩:=ga;obtain⟨dA,dc,oA,oc⟩:=x;have HRD2:Hid (∀W,Below wr.heap.size wr W->Calls Tryz.prog 68 #[.pointer (some ⟨P,0,none⟩),.agg #[t,r,n,.slice dA u.length dc,ut,ur,.slice oA ops.length oc]] W λe w'=>e= .returned (.bool rdy)∧Below W.heap.size W w'):=HRDc;have x0:=aj (w:=wr) (a:=⟨rb,ro+k*7,none⟩) (v:= .int .i64 t) (hrange 0 _ rfl);have x1:=aj (w:=wr) (a:=⟨rb,ro+k*7+1,none⟩) (v:= .int .i64 r) (hrange 1 _ rfl)
   have x2:=aj (w:=wr) (a:=⟨rb,ro+k*7+2,none⟩) (v:= .int .i64 n) (hrange 2 _ rfl);have x3:=aj (w:=wr) (a:=⟨rb,ro+k*7+3,none⟩) (v:= .slice dA u.length dc) (hrange 3 _ rfl);have x4:=aj (w:=wr) (a:=⟨rb,ro+k*7+4,none⟩) (v:= .int .i64 ut) (hrange 4 _ rfl);have x5:=aj (w:=wr) (a:=⟨rb,ro+k*7+5,none⟩) (v:= .int .i64 ur) (hrange 5 _ rfl);have x6:=aj (w:=wr) (a:=⟨rb,ro+k*7+6,none⟩) (v:= .slice oA ops.length oc) (hrange 6 _ rfl);have pp:=aj p1;have cA:=λd os=>ay (HRD2.out (grow (redrawn wr d) os) (bE wr d os));clear hrange HRDc;cases rdy with
   |false=>
    go_upto_region 5 with fail;refine rqb ?_
    repeat(any_goals(first|go_big_quiet_step (with_reducible exact cA _ _)|quiet_step (with_reducible exact cA _ _)))
    refine qz λwq hBq=> ?_;go_wp2;go_roundw
    case rel=>exact⟨k+1,z,by omega,by go_num,rfl,hid (by rw[HST.out];simpa using HZ.out),bT HBr hBq⟩
    case measure=>(simp[RowKit.intOf];omega)
   | true=>
    cases hbn:eU b.v b.wait k with
    |none=>
     obtain rfl:z= -1:=by rw[HZ.out,hbn];rfl
     rw[hbn] at HST;go_upto_region 5 with fail;refine rqb ?_
     repeat(any_goals(first|go_big_quiet_step (with_reducible exact cA _ _)|quiet_step (with_reducible exact cA _ _)))
     refine qz λwq hBq=> ?_;go_wp2;go_roundw
     case rel=>exact⟨k+1,(k:Int),by omega,by go_num,rfl,hid (by rw[HST.out];simp[behB,bestI]),bT HBr hBq⟩
     case measure=>(simp[RowKit.intOf];omega)
    | some j=>
     obtain rfl:z=(j:Int):=by rw[HZ.out,hbn];rfl
     rw[hbn] at HST;have hjk:=(gH hbn).1;obtain⟨rb2,ro2,he2,hrb2,hrange2⟩:=RowGr.range (RowGr.below HRow.out HBr.out) (k:=j) (by rw[HXM.out];omega);cases he2;obtain⟨q,hq⟩:∃q,q=X.M.getD j gp0:=⟨_,rfl⟩;have HQW:=hid (show q.1=b.wait.getD j gz by rw[hq];exact kg _ _ HBk.out.wl j);rw[<-hq] at hrange2;clear hq hbn;obtain⟨gb,y⟩:=q;obtain⟨⟨t2,r2⟩,n2,u2,⟨ut2,ur2⟩,ops2⟩:=gb;obtain⟨dA2,dc2,oA2,oc2⟩:=y;have y0:=aj (w:=wr) (a:=⟨rb,ro+j*7,none⟩) (v:= .int .i64 t2) (hrange2 0 _ rfl);have y1:=aj (w:=wr) (a:=⟨rb,ro+j*7+1,none⟩) (v:= .int .i64 r2) (hrange2 1 _ rfl);have i3:(0:Int)<=(j:Int):=by omega
     have i4:(j:Int)<(mw:Int):=by omega
     have i5:¬(j:Int)<0:=by omega
     have i6:decide ((j:Int)<0)=false:=aE i5;obtain⟨lt,hlt2⟩:∃z,z=(⟨t,r⟩:Gst).lt ⟨t2,r2⟩:=⟨_,rfl⟩;have cC:=λd os=>ay (show Calls Tryz.prog 103 #[.agg #[t,r],.agg #[t2,r2]] (grow (redrawn wr d) os) λe w'=>e= .returned (.bool lt)∧Below (grow (redrawn wr d) os).heap.size (grow (redrawn wr d) os) w' by rw[hlt2];exact eN t r t2 r2 _);have HY:=hid (show behB b.wait ⟨⟨t,r⟩,n,u,⟨ut,ur⟩,ops⟩ (some j)=lt by rw[hlt2];show(⟨t,r⟩:Gst).lt (b.wait.getD j gz).s=_;rw[<-HQW.out]);clear hlt2 hrange2;cases lt with
     |true=>
      go_upto_region 5 with fail;refine rqb ?_
      repeat(any_goals(first|go_big_quiet_step (with_reducible first|exact cA _ _|exact cC _ _)|quiet_step (with_reducible first|exact cA _ _|exact cC _ _)))
      refine qz λwq hBq=> ?_;go_wp2;go_roundw
      case rel=>exact⟨k+1,(k:Int),by omega,by go_num,rfl,hid (by rw[HST.out];rw[HY.out];rfl),bT HBr hBq⟩
      case measure=>(simp[RowKit.intOf];omega)
     |false=>
      go_upto_region 5 with fail;refine rqb ?_
      repeat(any_goals(first|go_big_quiet_step (with_reducible first|exact cA _ _|exact cC _ _)|quiet_step (with_reducible first|exact cA _ _|exact cC _ _)))
      refine qz λwq hBq=> ?_;go_wp2;go_roundw
      case rel=>exact⟨k+1,(j:Int),by omega,by go_num,rfl,hid (by rw[HST.out];rw[HY.out];rfl),bT HBr hBq⟩
      case measure=>(simp[RowKit.intOf];omega)
  ·obtain rfl:k=mw:=by omega
   have i2:¬(k:Int)<(k:Int):=by omega
   have i2d:decide ((k:Int)<(k:Int))=false:=aE i2;have HZ2:=hid (show Value.int .i64 z= .int .i64 (bestI (eU b.v b.wait k)) by rw[HZ.out]);go_wp2;go_ret;exact⟨congrArg Ending.returned HZ2.out,HBr.out⟩
end
section
theorem drainF_mem:∀(f:Nat) (b:Bx),∀x∈(bQ f b).1.done++(bQ f b).1.wait,x∈b.done++b.wait
 |0,b,x,h=>h
 | f+1,b,x,h=>by
  cases hb:eU b.v b.wait b.wait.length with
  |none=>rw[gj hb] at h;exact h
  | some k=>
   have hk:=(gH hb).1
   cases ho:oldB b.v (b.wait.getD k gz) with
   |true=>
    rw[gR hb ho] at h
    have:=drainF_mem f _ x h
    rcases au.1 this with h1|h1
    ·exact au.2 (.inl h1)
    ·exact au.2 (.inr (gp h1))
   |false=>
    rw[gi hb ho] at h
    have:=drainF_mem f _ x h
    simp only[Bx.put,au,aO] at this
    rcases this with(h1|rfl)|h1
    ·exact au.2 (.inl h1)
    ·exact au.2 (.inr (gf hk))
    ·exact au.2 (.inr (gp h1))
theorem hearB_mem (b:Bx) (g:Grp):∀x∈(bS b g).1.done++(bS b g).1.wait,x∈b.done++b.wait∨x=g:=by
 intro x;unfold bS;split
 ·exact .inl
 ·split
  ·exact .inl
  ·split
   ·intro h;have:=drainF_mem _ _ x h;simp only[Bx.put,au,aO] at this;rcases this with(h1|h1)|h1
    ·exact .inl (au.2 (.inl h1))
    ·exact .inr h1
    ·exact .inl (au.2 (.inr h1))
   ·split
    ·exact .inl
    ·intro h;simp only[au,aO] at h;rcases h with h1|h1|h1
     ·exact .inl (au.2 (.inl h1))
     ·exact .inl (au.2 (.inr h1))
     ·exact .inr h1
end
end Go.Proofs.YtkhmicndehlneaaGreatDoor
