/- Part 23 of the walks and plain laws that this claim uses, joined. Conditions: as each theorem states. -/
import Derived.Test.YtkhmicndehlneaaGreatDoorYhv
namespace Go.Proofs.YtkhmicndehlneaaGreatDoor
set_option maxRecDepth 100000
set_option maxHeartbeats 16000000
set_option linter.unusedVariables false
section
open Go.RowKit Go.Lib Go.Sort
attribute [local go_sem ↓] Go.wp_at_zero Go.wp_at_succ
def opsM (p:Plc) (l:List Gop):List Plc:=(l.filter (λo=>decide (o.kind=0) && o.node.eqb p.n)).map λo=>⟨p.n,p.p,p.name,o.dir⟩
def iZ (L:List (Grp×GrX)) (p:Plc):List Plc:=L.flatMap λg=>opsM p g.1.ops
def gV (L:List (Grp×GrX)) (P:List Plc):List Plc:=P.flatMap (iZ L)
theorem opsM_succ (p:Plc) {l:List Gop} {j:Nat} (h:j<l.length):opsM p (l.take (j+1))=opsM p (l.take j)++(if (decide ((l.getD j (opO 0 .zero)).kind=0) && (l.getD j (opO 0 .zero)).node.eqb p.n)=true then [⟨p.n,p.p,p.name,(l.getD j (opO 0 .zero)).dir⟩] else []):=by
 unfold opsM;rw[dF h (opO 0 .zero),jD,bq];congr 1;generalize l.getD j (opO 0 .zero)=o;cases e:(decide (o.kind=0) && o.node.eqb p.n)<;>simp[List.filter,e]
theorem made_any (L:List (Grp×GrX)) (A:Option Addr) (c:Nat) (P:List Plc) (pA:Option Addr) (pc:Nat) (S S2:Nat->Prop) (w:World) (hl:L.length<=100) (hlo:∀p∈L,p.1.ops.length<=100) (hp:P.length<=10000) (hR:RowGr w A L) (hG:∀p∈L,GrG w S p) (hP:RowF w S2 pA 8 plcL plc0 P):
  Calls Tryz.prog 110 #[.slice A L.length c,.slice pA P.length pc] w λe w'=>∃A' c',e= .returned (.slice A' (gV L P).length c')∧w'.ownsRow w.heap.size 161 8 (.slice A' (gV L P).length c') (gV L P).length ((gV L P).flatMap plcL)∧Below w.heap.size w w':=by
 obtain⟨i0,hi,hz0,hz1,hz2⟩:=bD info_plc;have HR:=hid hR;have HG:=hid hG;have HP:=hid hP;have HLO:=hid hlo;clear hR hG hP hlo;go_enter Tryz.func110,Tryz.ntmps110;go_upto_region 3 with fail;go_loopw [5,6] (λo i wr=>∃(k0:Nat) (A':Option Addr) (c' m:Nat),k0<=P.length∧i= .int .i64 k0∧o= .slice A' m c'∧m<=k0*10000∧Hid (m=(gV L (P.take k0)).length)∧Hid (wr.ownsRow w.heap.size 161 8 (.slice A' m c') m ((gV L (P.take k0)).flatMap plcL))∧Hid (Below w.heap.size w wr)) (λo i _=>P.length-(RowKit.intOf i).toNat)
 case atStart=>exact⟨0,none,0,0,aq _,rfl,rfl,aq _,hid rfl,hid (aF _ _ _ _),hid (ag _ _)⟩
 case round=>
  obtain⟨k0,A',c',m,hk0,rfl,rfl,hmk0,HML,HO,HBr⟩:=hrel;by_cases hlt0:k0<P.length
  ·have i1:(0:Int)<=(k0:Int):=by omega
   have i2:(k0:Int)<(P.length:Int):=by omega
   obtain⟨pb,po,rfl,-,hpb,hprange⟩:=HP.out.range (λ_=>rfl) hlt0;have hst0:gV L (P.take (k0+1))=gV L (P.take k0)++iZ L (P.getD k0 plc0):=by rw[dF hlt0 plc0];simp[gV]
   generalize gV L (P.take k0)=N0 at *;generalize P.getD k0 plc0=q at *;obtain⟨⟨⟨qt,qr⟩,qi⟩,⟨⟨st,sr⟩,si⟩,qm,qd⟩:=q;have HPW:=hid (λW (hB:Below w.heap.size w W)=>show W.rangeAt pb (po+k0*8) [.int .i64 qt,.int .i64 qr,.int .i64 qi,.int .i64 st,.int .i64 sr,.int .i64 si,.string qm,.bool qd] from cd hprange hpb hB);have HST0:=hid hst0;clear hprange hpb hst0;generalize wr=w0 at *;go_upto_region 6 with fail;go_loopw [5,7] (λo i wr=>∃(k:Nat) (A':Option Addr) (c' m:Nat),k<=L.length∧i= .int .i64 k∧o= .slice A' m c'∧m<=k0*10000+k*100∧Hid (m=(N0++iZ (L.take k) ⟨⟨⟨qt,qr⟩,qi⟩,⟨⟨st,sr⟩,si⟩,qm,qd⟩).length)∧Hid (wr.ownsRow w.heap.size 161 8 (.slice A' m c') m ((N0++iZ (L.take k) ⟨⟨⟨qt,qr⟩,qi⟩,⟨⟨st,sr⟩,si⟩,qm,qd⟩).flatMap plcL))∧Hid (Below w.heap.size w wr)) (λo i _=>L.length-(RowKit.intOf i).toNat)
   case atStart=>exact⟨0,A',c',m,aq _,rfl,rfl,by omega,hid (by rw[HML.out];simp[iZ]),hid (by have h9:=HO.out;simpa[iZ] using h9),HBr⟩
   case round=>
    obtain⟨k,A',c',m,hk,rfl,rfl,hmk,HML,HO,HBr⟩:=hrel;by_cases hlt:k<L.length
    ·have j1:(0:Int)<=(k:Int):=by omega
     have j2:(k:Int)<(L.length:Int):=by omega
     obtain⟨rb,ro,rfl,hrb,hrange⟩:=HR.out.range hlt;have hst:iZ (L.take (k+1)) ⟨⟨⟨qt,qr⟩,qi⟩,⟨⟨st,sr⟩,si⟩,qm,qd⟩=iZ (L.take k) ⟨⟨⟨qt,qr⟩,qi⟩,⟨⟨st,sr⟩,si⟩,qm,qd⟩++opsM ⟨⟨⟨qt,qr⟩,qi⟩,⟨⟨st,sr⟩,si⟩,qm,qd⟩ (L.getD k gp0).1.ops:=by rw[dF hlt gp0];simp[iZ]
     have hop:=(HG.out _ (bL hlt gp0)).ops;have hol:=HLO.out _ (bL hlt gp0);generalize iZ (L.take k) ⟨⟨⟨qt,qr⟩,qi⟩,⟨⟨st,sr⟩,si⟩,qm,qd⟩=N at *;generalize L.getD k gp0=p at *;obtain⟨⟨⟨t,r⟩,n,dv,⟨ut,ur⟩,ops⟩,⟨dA,dc,oA,oc⟩⟩:=p;obtain⟨X,hX1,hX2⟩:=hop;have hol:ops.length<=100:=hol;have HRW:=hid (λW (hB:Below w.heap.size w W)=>show W.rangeAt rb (ro+k*7) [.int .i64 t,.int .i64 r,.int .i64 n,.slice dA dv.length dc,.int .i64 ut,.int .i64 ur,.slice oA ops.length oc] from cd hrange hrb hB);have HX1:=hid hX1;have HST:=hid (show iZ (L.take (k+1)) ⟨⟨⟨qt,qr⟩,qi⟩,⟨⟨st,sr⟩,si⟩,qm,qd⟩=N++opsM ⟨⟨⟨qt,qr⟩,qi⟩,⟨⟨st,sr⟩,si⟩,qm,qd⟩ ops from hst);clear hrange hrb hst hX1 hX2;generalize wr=w1 at *;go_upto_region 9 with fail;go_loopw [5,8] (λo i wr=>∃(j:Nat) (A':Option Addr) (c' m:Nat),j<=ops.length∧i= .int .i64 j∧o= .slice A' m c'∧m<=k0*10000+k*100+j∧Hid (m=(N0++N++opsM ⟨⟨⟨qt,qr⟩,qi⟩,⟨⟨st,sr⟩,si⟩,qm,qd⟩ (ops.take j)).length)∧Hid (wr.ownsRow w.heap.size 161 8 (.slice A' m c') m ((N0++N++opsM ⟨⟨⟨qt,qr⟩,qi⟩,⟨⟨st,sr⟩,si⟩,qm,qd⟩ (ops.take j)).flatMap plcL))∧Hid (Below w.heap.size w wr)) (λo i _=>ops.length-(RowKit.intOf i).toNat)
     case atStart=>exact⟨0,A',c',m,aq _,rfl,rfl,by omega,hid (by rw[HML.out];simp[opsM]),hid (by have h9:=HO.out;simpa[opsM] using h9),HBr⟩
     case round=>
      obtain⟨j,A',c',m,hj,rfl,rfl,hmj,HML,HO,HBr⟩:=hrel;have HRG:=hid (HRW.out wr HBr.out);have hszr:=HBr.out.size;have g6:wr.cell? ⟨rb,ro+k*7+6,none⟩=some (.slice oA ops.length oc):=HRG.out 6 _ rfl;by_cases hjl:j<ops.length
      ·have l1:(0:Int)<=(j:Int):=by omega
       have l2:(j:Int)<(ops.length:Int):=by omega
       obtain⟨ob,oo,rfl,-,hob,hoc⟩:=HX1.out j hjl;have hor:=jw hoc;have hst2:=opsM_succ ⟨⟨⟨qt,qr⟩,qi⟩,⟨⟨st,sr⟩,si⟩,qm,qd⟩ hjl;generalize ops.getD j (opO 0 .zero)=o at *;generalize X j=x at *;obtain⟨kd,⟨⟨nt,nr⟩,ni⟩,⟨⟨pt,pr⟩,pi⟩,nm,dd,dots,⟨⟨at_,ar⟩,ai⟩,⟨⟨et,er⟩,ei⟩,tx,elems⟩:=o;obtain⟨sA,sc,eA,ec⟩:=x;have HOR:=hid (λW (hB:Below w.heap.size w W)=>show W.rangeAt ob (oo+j*18) [.int .i64 kd,.int .i64 nt,.int .i64 nr,.int .i64 ni,.int .i64 pt,.int .i64 pr,.int .i64 pi,.string nm,.bool dd,.slice sA dots.length sc,.int .i64 at_,.int .i64 ar,.int .i64 ai,.int .i64 et,.int .i64 er,.int .i64 ei,.string tx,.slice eA elems.length ec] from cd hor hob hB);obtain⟨b1,hb1⟩:∃b,b=decide (kd=0):=⟨_,rfl⟩;obtain⟨b2,hb2⟩:∃b,b=Gid.eqb ⟨⟨nt,nr⟩,ni⟩ ⟨⟨qt,qr⟩,qi⟩:=⟨_,rfl⟩;have q1:(kd == 0)=b1:=by rw[hb1];rfl
       have q2:=eJ nt nr ni qt qr qi b2 hb2.symm;have HS2:=hid (show opsM ⟨⟨⟨qt,qr⟩,qi⟩,⟨⟨st,sr⟩,si⟩,qm,qd⟩ (ops.take (j+1))=opsM ⟨⟨⟨qt,qr⟩,qi⟩,⟨⟨st,sr⟩,si⟩,qm,qd⟩ (ops.take j)++(if (b1 && b2)=true then [(⟨⟨⟨qt,qr⟩,qi⟩,⟨⟨st,sr⟩,si⟩,qm,dd⟩:Plc)] else []) by rw[hst2,hb1,hb2]);have HOw:=hid (HOR.out wr HBr.out);have HPw:=hid (HPW.out wr HBr.out);have y6:=aj g6;have z0:=aj (w:=wr) (a:=⟨ob,oo+j*18,none⟩) (v:= .int .i64 kd) (HOw.out 0 _ rfl);have z1:=aj (w:=wr) (a:=⟨ob,oo+j*18+1,none⟩) (v:= .int .i64 nt) (HOw.out 1 _ rfl);have z2:=aj (w:=wr) (a:=⟨ob,oo+j*18+2,none⟩) (v:= .int .i64 nr) (HOw.out 2 _ rfl);have z2':=aj (w:=wr) (a:=⟨ob,oo+j*18+1+1,none⟩) (v:= .int .i64 nr) (HOw.out 2 _ rfl);have z3:=aj (w:=wr) (a:=⟨ob,oo+j*18+3,none⟩) (v:= .int .i64 ni) (HOw.out 3 _ rfl);have z3':=aj (w:=wr) (a:=⟨ob,oo+j*18+1+2,none⟩) (v:= .int .i64 ni) (HOw.out 3 _ rfl);have p0:=aj (w:=wr) (a:=⟨pb,po+k0*8,none⟩) (v:= .int .i64 qt) (HPw.out 0 _ rfl);have p1:=aj (w:=wr) (a:=⟨pb,po+k0*8+1,none⟩) (v:= .int .i64 qr) (HPw.out 1 _ rfl);have p2:=aj (w:=wr) (a:=⟨pb,po+k0*8+2,none⟩) (v:= .int .i64 qi) (HPw.out 2 _ rfl);clear hor hob hoc hst2 hb1 hb2;cases b1 with
       |false=>
        go_upto_region 11 with fail;refine rqb ?_
        repeat(any_goals(first|go_big_quiet_step (fail)|quiet_step (fail)))
        refine qz λwq hBq=> ?_;have HOq:=kO HO hBq;have HBq2:=hid (HBr.out.trans (hBq.mono hszr));go_wp2;go_roundw
        case rel=>exact⟨j+1,A',c',m,by omega,by go_num,rfl,by omega,hid (by rw[HS2.out];simpa using HML.out),hid (by rw[HS2.out];simpa using HOq.out),HBq2⟩
        case measure=>(simp[RowKit.intOf];omega)
       | true=>
        cases b2 with
        |false=>
         go_upto_region 11 with fail;refine rqb ?_
         repeat(any_goals(first|go_big_quiet_step (fail)|quiet_step (fail)))
         refine qz λwq hBq=> ?_;have HOq:=kO HO hBq;have HBq2:=hid (HBr.out.trans (hBq.mono hszr));go_wp2;go_roundw
         case rel=>exact⟨j+1,A',c',m,by omega,by go_num,rfl,by omega,hid (by rw[HS2.out];simpa using HML.out),hid (by rw[HS2.out];simpa using HOq.out),HBq2⟩
         case measure=>(simp[RowKit.intOf];omega)
        | true=>
         go_upto_region 11 with fail;refine rqb ?_
         repeat(any_goals(first|go_big_quiet_step (fail)|quiet_step (fail)))
         refine qz λwq hBq=> ?_;have HOq:=kO HO hBq;have HBq2:=hid (HBr.out.trans (hBq.mono hszr));have HPq:=hid (HPW.out wq HBq2.out);have HOo:=hid (HOR.out wq HBq2.out);have HGq:=hid (HRW.out wq HBq2.out);have hszq:=HBq2.out.size;clear y6 z0 z1 z2 z2' z3 z3' p0 p1 p2 g6
         go_upto_region 13 with(first
          |(refine lM HPq ca ?_)
          |(refine bM rfl _ _ _ rfl _ _ _ _ rfl ?_ rfl ?_ ?_ ?_ ?_;(focus(simp;done));kernel_rfl;rfl;rfl))
         have hba:=HBq2.out.alloc hszq (.cells #[qt,qr,qi,st,sr,si,qm,qd] 161);have hbx:Below wq.heap.size wq (wq.alloc (.cells #[qt,qr,qi,st,sr,si,qm,qd] 161)):=(ag _ _).alloc (aa _) _;have HCX:=hid (am wq (.cells #[qt,qr,qi,st,sr,si,qm,qd] 161));generalize hW:wq.alloc (.cells #[qt,qr,qi,st,sr,si,qm,qd] 161)=W at *;have HBW:=hid hba;have HOW:=kO HOq hbx;have hOw9:=HOR.out W hba;have hGw9:=HRW.out W hba;have c6:W.cell? ⟨rb,ro+k*7+6,none⟩=some (.slice (some ⟨ob,oo,none⟩) ops.length oc):=hGw9 6 _ rfl;have c8:W.cell? ⟨ob,oo+j*18+8,none⟩=some (.bool dd):=hOw9 8 _ rfl;have c7:=cw7 HCX.out;have f7:W.frozen? ⟨wq.heap.size,7,none⟩=false:=aW _ _ _ _ _ HCX.out;have hqn:∀b,(Value.slice A' m c').ownBlock=some b->b≠wq.heap.size:=λb e=>by have:=(HOq.out.lt b e).2;omega
         have HQN:=hid (show(Value.slice A' m c').ownBlock≠some wq.heap.size from λe=>hqn _ e rfl);clear hW hba hbx hOw9 hGw9 hqn;go_upto_region 14 with fail;obtain⟨V1,hV1⟩:∃V,V=W.setCell ⟨wq.heap.size,7,none⟩ (.bool dd):=⟨_,rfl⟩;have HC4:=hid (show V1.heap[wq.heap.size]? =some (.cells #[qt,qr,qi,st,sr,si,qm,dd] 161 (0,0)) by rw[hV1];exact gI (c:=#[.int .i64 qt,.int .i64 qr,.int .i64 qi,.int .i64 st,.int .i64 sr,.int .i64 si,.string qm,.bool qd]) HCX.out 7 (.bool dd) rfl);have HO4:=hid (show V1.ownsRow w.heap.size 161 8 (.slice A' m c') m ((N0++N++opsM ⟨⟨⟨qt,qr⟩,qi⟩,⟨⟨st,sr⟩,si⟩,qm,qd⟩ (ops.take j)).flatMap plcL) by rw[hV1];exact gJ HOW.out HQN.out 7 (.bool dd));have HB4:=hid (show Below w.heap.size w V1 by rw[hV1];exact HBW.out.grown (eF wq.heap.size 7 (.bool dd)) HBW.out.size (λb e=>by cases e;exact hszq));have hsz4:=HB4.out.size;rw[<-hV1];clear hV1 c6 c7 c8 f7
         go_wp2_with (first
          |(refine lA HC4 ca ?_)
          |(at_builtin;refine bX _ rfl _ _ 101 rfl w.heap.size 161 i0 (.agg #[(0:Int),(0:Int),(0:Int),(0:Int),(0:Int),(0:Int),.string ⟨#[]⟩,false]) 8 72 Tryz.underlying101 hi hz0 hz1 hz2 rfl (by decide) (.slice A' m c') m _ rfl (by exact HO4.out.alloc _) ⟨V1.heap.size,0,none⟩ 1 1 [.int .i64 qt,.int .i64 qr,.int .i64 qi,.int .i64 st,.int .i64 sr,.int .i64 si,.string qm,.bool dd] rfl rfl (λj y h=>dH V1 [.int .i64 qt,.int .i64 qr,.int .i64 qi,.int .i64 st,.int .i64 sr,.int .i64 si,.string qm,.bool dd] 161 j y h) (fw (c:=#[.int .i64 qt,.int .i64 qr,.int .i64 qi,.int .i64 st,.int .i64 sr,.int .i64 si,.string qm,.bool dd]) rfl) (by decide) (by unfold maxLen;omega) (by omega) (by simp;omega) (V1.heap.size+1) (by simp) ?_;intro gq cap w5 hown hgrow ha hlt5;have HO5:=hid hown;have HB5:=hid ((HB4.out.alloc hsz4 _).grown hgrow (by simp;omega) (λb hb=>(HO4.out.lt b hb).1));clear hown hgrow ha hlt5))
         go_roundw
         case rel=>exact⟨j+1,some ⟨gq,0,none⟩,cap,m+1,by omega,by go_num,rfl,by omega,hid (by rw[HS2.out,aJ (show(true && true)=true from rfl),<-aG,al,<-HML.out];rfl),hid (by rw[HS2.out,aJ (show(true && true)=true from rfl),<-aG,aI];exact HO5.out),HB5⟩
         case measure=>(simp[RowKit.intOf];omega)
      ·obtain rfl:j=ops.length:=by omega
       have l2:¬(ops.length:Int)<(ops.length:Int):=by omega
       have HM9:=hid (show m=(N0++iZ (L.take (k+1)) ⟨⟨⟨qt,qr⟩,qi⟩,⟨⟨st,sr⟩,si⟩,qm,qd⟩).length by rw[HST.out,<-aG];have h9:=HML.out;rw[aK] at h9;exact h9);have HO9:=hid (show wr.ownsRow w.heap.size 161 8 (.slice A' m c') m ((N0++iZ (L.take (k+1)) ⟨⟨⟨qt,qr⟩,qi⟩,⟨⟨st,sr⟩,si⟩,qm,qd⟩).flatMap plcL) by rw[HST.out,<-aG];have h9:=HO.out;rw[aK] at h9;exact h9);go_wp2;go_roundw
       case rel=>exact⟨k+1,A',c',m,by omega,by go_num,rfl,by omega,HM9,HO9,HBr⟩
       case measure=>(simp[RowKit.intOf];omega)
    ·obtain rfl:k=L.length:=by omega
     have j2:¬(L.length:Int)<(L.length:Int):=by omega
     have HM9:=hid (show m=(gV L (P.take (k0+1))).length by rw[HST0.out];have h9:=HML.out;rw[aK] at h9;exact h9);have HO9:=hid (show wr.ownsRow w.heap.size 161 8 (.slice A' m c') m ((gV L (P.take (k0+1))).flatMap plcL) by rw[HST0.out];have h9:=HO.out;rw[aK] at h9;exact h9);go_wp2;go_roundw
     case rel=>exact⟨k0+1,A',c',m,by omega,by go_num,rfl,by omega,HM9,HO9,HBr⟩
     case measure=>(simp[RowKit.intOf];omega)
  ·obtain rfl:k0=P.length:=by omega
   have i2:¬(P.length:Int)<(P.length:Int):=by omega
   have HM9:=hid (show m=(gV L P).length by have h9:=HML.out;rw[aK] at h9;exact h9);have HO9:=hid (show wr.ownsRow w.heap.size 161 8 (.slice A' m c') m ((gV L P).flatMap plcL) by have h9:=HO.out;rw[aK] at h9;exact h9);go_wp2;go_ret;refine⟨A',c',by rw[<-HM9.out];rfl,?_,HBr.out⟩;rw[<-HM9.out];exact HO9.out
def cntD (t:ByteArray):Nat:=(cnt t.data.toList).getD 0
theorem cnt_le:∀(n:Nat) (l:List UInt8),l.length<=n->∀m,cnt l=some m->m<=l.length
 |n,[],_,m,h=>by rw[cnt_nil] at h;cases h;exact aa _
 |0,a::l,hl,m,h=>by simp at hl
 | n+1,a::l,hl,m,h=>by
  have hne:a::l≠[]:=by simp
  rw[cnt_step hne] at h
  cases hr:rfL (a::l) with
  |none=>rw[hr] at h;cases h
  | some p=>
   obtain⟨c,k⟩:=p
   rw[hr] at h
   simp only at h
   have hk:=je hne hr
   have hd:((a::l).drop k).length=(a::l).length-k:=bI ..
   cases hc:cnt ((a::l).drop k) with
   |none=>rw[hc] at h;cases h
   |some q=>
    rw[hc] at h
    have h2:=cnt_le n ((a::l).drop k) (by omega) q hc
    have h3:q+1=m:=by injection h
    omega
theorem cntD_le (t:ByteArray):cntD t<=t.size:=by
 unfold cntD;cases h:cnt t.data.toList with
 |none=>exact aq _
 |some m=>
  have:=cnt_le _ _ (aa _) m h;simpa using this
def ik (r:Rn):List Gid:=(List.range (cntD r.tx)).map λ(k:Nat)=>⟨r.el.s,r.el.i+(k:Int)⟩
def ew (N:List Gid) (x:Gid):List Gid:=if N.any (λy=>y.eqb x)=true then N else N++[x]
def gN (L:List Rn):List Gid:=L.foldl (λN r=>(ik r).foldl ew N) []
theorem names_len (r:Rn):(ik r).length=cntD r.tx:=by unfold ik;simp
theorem names_at (r:Rn) {k:Nat} (h:k<cntD r.tx) (z:Gid):(ik r).getD k z=⟨r.el.s,r.el.i+(k:Int)⟩:=by
 unfold ik;rw[ae,cT,iU h];rfl
theorem any_map (M:List Elt) (x:Gid):(M.map (·.id)).any (λy=>y.eqb x)=M.any (λy:Elt=>Gid.eqb y.id x):=by
 rw[List.any_map];rfl
theorem RowF.one {α:Type} {w:World} {B s:Nat} {A:Option Addr} {f:α->List Value} {z:α} {L:List α} (h:RowF w (λb=>B<=b) A s f z L):∃pb,RowF w (λb=>b=pb) A s f z L∧B<=pb∧(0<L.length->pb<w.heap.size):=by
 by_cases h0:0<L.length
 ·obtain⟨b,o,e,hS,hb,hc⟩:=h 0 h0;refine⟨b,λk hk=> ?_,hS,λ_=>hb⟩;obtain⟨b',o',e',hS',hb',hc'⟩:=h k hk;rw[e] at e';cases e';exact⟨b,o,e,rfl,hb,hc'⟩
 ·exact⟨B,λk hk=>absurd hk (by omega),aa _,λh=>absurd h h0⟩
theorem dR (w:World) (g:Nat) (c:Array Value):w.grownBy (w.setRow g c) (some g):=
 ⟨rfl,rfl,rfl,by simp[World.setRow],λk _ hk=>setRow_other _ _ _ _ (λe=>hk (by rw[e]))⟩
theorem range_block {w w':World} {b o:Nat} {cs:List Value} (h:w.rangeAt b o cs) (hb:w'.heap[b]? =w.heap[b]?):w'.rangeAt b o cs:=λj v hv=>(aS (w:=w) (w':=w') (a:=⟨b,o+j,none⟩) hb).trans (h j v hv)
theorem there_of {w:World} {g:Nat} {T:TypeId} {c:Array Value} (h:w.heap[g]? =some (.cells c T (0,0))):w.there g 0 c.size:=λj hj=>by
 refine⟨?_,aW _ _ _ _ _ h⟩
 rw[crw h,bN,dh hj];rfl
theorem split6_all (t:ByteArray) (w:World) (hs:t.size≤1000000):Calls Tryz.prog 193 #[.string t] w fun e w'=>∃A c ps z,e= .returned (.tuple #[.slice A (cntD t) c,.int .i64 z])∧cntD t=List.length ps∧RowF w' (fun b=>w.heap.size≤b) A 1 strL ⟨#[]⟩ ps∧Below w.heap.size w w':=by
 refine(split6_row t w hs).mono ?_
 intro e w' h
 unfold cntD
 cases hc:cnt t.data.toList with
 |none=>rw[hc] at h;exact⟨none,0,[],60,h.1,rfl,RowF.nil,h.2⟩
 |some m=>
  rw[hc] at h
  obtain⟨A,c,ps,hm,he,ho,hb⟩:=h
  exact⟨A,c,ps,0,he,hm,ct (fun _=>rfl) hm ho,hb⟩
theorem elements9_any (L:List Rn) (A:Option Addr) (c:Nat) (S:Nat->Prop) (w:World) (hl:L.length<=10000) (hh:∀p∈L,p.tx.size<=1000∧0<p.el.s.t∧0<=p.el.i∧p.el.i<=1000000) (hR:RowF w S A 7 rnL rn0 L):
  Calls Tryz.prog 183 #[.slice A L.length c] w λe w'=>∃A' c' m,∃M:List Elt,e= .returned (.slice A' m c')∧m=M.length∧M.map (·.id)=gN L∧m<=L.length*1000∧w'.ownsRow w.heap.size 169 7 (.slice A' m c') m (M.flatMap eltL)∧Below w.heap.size w w':=by
 obtain⟨i0,hi,hz0,hz1,hz2⟩:=bD info_elt;have HR:=hid hR;have HH:=hid hh;clear hR hh;go_enter Tryz.func183,Tryz.ntmps183;go_upto_region 3 with fail;go_loopw [3,4] (λo i wr=>∃(k:Nat) (A':Option Addr) (c' m:Nat) (M:List Elt),k<=L.length∧i= .int .i64 k∧o= .slice A' m c'∧m<=k*1000∧Hid (m=M.length)∧Hid (M.map (·.id)=gN (L.take k))∧Hid (wr.ownsRow w.heap.size 169 7 (.slice A' m c') m (M.flatMap eltL))∧Hid (Below w.heap.size w wr)) (λo i _=>L.length-(RowKit.intOf i).toNat)
 case atStart=>exact⟨0,none,0,0,[],aq _,rfl,rfl,aq _,hid rfl,hid rfl,hid (aF w w.heap.size 169 7),hid (ag _ _)⟩
 case round=>
  obtain⟨k,A',c',m,M,hk,rfl,rfl,hmk,HML,HM,HO,HBr⟩:=hrel;by_cases hlt:k<L.length
  ·have i1:(0:Int)<=(k:Int):=by omega
   have i2:(k:Int)<(L.length:Int):=by omega
   obtain⟨rb,ro,rfl,-,hrb,hrange⟩:=HR.out.range (λ_=>rfl) hlt;have hst:gN (L.take (k+1))=(ik (L.getD k rn0)).foldl ew (gN (L.take k)):=eL _ _ hlt rn0;have hhp:=HH.out _ (bL hlt rn0);generalize gN (L.take k)=N at *;generalize L.getD k rn0=p at *;obtain⟨⟨⟨at_,ar⟩,ai⟩,⟨⟨et,er⟩,ei⟩,tx⟩:=p;obtain⟨htx,het,hei,hei2⟩:=(show tx.size<=1000∧0<et∧0<=ei∧ei<=1000000 from hhp);have HRW:=hid (λW (hB:Below w.heap.size w W)=>show W.rangeAt rb (ro+k*7) [.int .i64 at_,.int .i64 ar,.int .i64 ai,.int .i64 et,.int .i64 er,.int .i64 ei,.string tx] from cd hrange hrb hB);have HST:=hid hst;have hsz0:=HBr.out.size;have hcd:=cntD_le tx;have HSP:=hid (split6_all tx wr (by omega));have HLT:=hid HO.out.lt;have g6:wr.cell? ⟨rb,ro+k*7+6,none⟩=some (.string tx):=HRW.out wr HBr.out 6 _ rfl;clear hrange hrb hst hhp;generalize wr=w0 at *;go_upto_region 6 with(go_at_call 193;refine HSP.out.mono ?_;rintro e w1 ⟨pA,pc,ps,z,rfl,hps,hP1,hB1⟩;have HP1:=hid hP1;have HB1:=hid hB1;have HPS:=hid hps;clear hP1 hB1 hps);obtain⟨pb,hP2,hpb1,hpb2⟩:=HP1.out.one;have HBW1:=hid (HBr.out.trans (HB1.out.mono hsz0));have hs1:=HB1.out.size;have HRM:=hid (show w1.rangeAt rb (ro+k*7) [.int .i64 at_,.int .i64 ar,.int .i64 ai] from bv (pre:=[]) (mid:=[.int .i64 at_,.int .i64 ar,.int .i64 ai]) (post:=[.int .i64 et,.int .i64 er,.int .i64 ei,.string tx]) (HRW.out w1 HBW1.out));have HO1:=kO HO HB1.out
   have NPB0:=hid (show(Value.slice A' m c').ownBlock≠some pb from λe=>by have:=(HLT.out pb e).2;omega);have NAB0:=hid (show(Value.slice A' m c').ownBlock≠some w1.heap.size from λe=>by have:=(HLT.out _ e).2;omega);have HPA0:=hid (show 0<ps.length->pb<w1.heap.size from hpb2);have HP2:=hid hP2;clear g6 hP2 hpb1 hpb2
   go_upto_region 7 with(first
    |(refine lM HRM aw ?_)
    |(refine bM rfl _ _ _ rfl _ _ _ _ rfl ?_ rfl ?_ ?_ ?_ ?_;(focus(simp;done));kernel_rfl;rfl;rfl))
   have hbx:Below w1.heap.size w1 (w1.alloc (.cells #[at_,ar,ai] 108)):=(ag _ _).alloc (aa _) _;have HAW:=hid (am w1 (.cells #[at_,ar,ai] 108));have HBW:=bT HBW1 hbx;have HOW:=kO HO1 hbx;have HPW:=hid (HP2.out.below hbx);have HAB:=hid (show w.heap.size<=w1.heap.size from HBW1.out.size);generalize hW:w1.alloc (.cells #[at_,ar,ai] 108)=W at *;generalize hab:w1.heap.size=aB at *;clear hW hab hbx HSP HP1 HB1 HBW1 HO1 HO HBr HP2 HRM HLT hs1 hsz0;go_upto_region 8 with fail;go_loopw [3,8] (λo i wr=>∃(q:Nat) (A':Option Addr) (c' m:Nat) (M:List Elt) (qt qr qi:Int),q<=cntD tx∧i= .int .i64 q∧o= .slice A' m c'∧m<=k*1000+q∧Hid (m=M.length)∧Hid (M.map (·.id)=((ik (⟨⟨⟨at_,ar⟩,ai⟩,⟨⟨et,er⟩,ei⟩,tx⟩:Rn)).take q).foldl ew N)∧Hid (wr.ownsRow w.heap.size 169 7 (.slice A' m c') m (M.flatMap eltL))∧Hid (Below w.heap.size w wr)∧Hid (wr.heap[aB]? =some (.cells #[qt,qr,qi] 108 (0,0)))∧Hid (RowF wr (λb=>b=pb) pA 1 strL ⟨#[]⟩ ps)∧Hid ((Value.slice A' m c').ownBlock≠some pb)∧Hid ((Value.slice A' m c').ownBlock≠some aB)) (λo i _=>cntD tx-(RowKit.intOf i).toNat)
   case atStart=>exact⟨0,A',c',m,M,at_,ar,ai,aq _,rfl,rfl,by omega,HML,hid (by rw[HM.out];rfl),HOW,HBW,HAW,HPW,NPB0,NAB0⟩
   case round=>
    clear HML HM HOW HBW HAW HPW NPB0 NAB0 hmk;obtain⟨q,A',c',m,M,qt,qr,qi,hj,rfl,rfl,hmj,HML,HM,HO,HBr,HA,HP,NPB,NAB⟩:=hrel;by_cases hjl:q<cntD tx
    ·have j1:(0:Int)<=(q:Int):=by omega
     have j2:(q:Int)<(cntD tx:Int):=by omega
     have hjp:q<ps.length:=by rw[<-HPS.out];exact hjl
     obtain⟨pb2,po,hpA,hpe,hpl,hpr⟩:=HP.out.range (λ_=>rfl) hjp;rw[show pb2=pb from hpe] at hpA hpl hpr;obtain rfl:=hpA;have HPA:=hid (HPA0.out (by omega));have hst2:(((ik ⟨⟨⟨at_,ar⟩,ai⟩,⟨⟨et,er⟩,ei⟩,tx⟩).take (q+1)).foldl ew N)=ew (M.map (·.id)) ⟨⟨et,er⟩,ei+(q:Int)⟩:=by rw[eL _ _ (by rw[names_len];exact hjl) Gid.zero,names_at _ hjl,HM.out]
     generalize ps.getD q ⟨#[]⟩=pt at *;have HST2:=hid hst2;have HPT0:=hid (show wr.rangeAt pb (po+q*1) [.string pt] from hpr);have q0:=eJ et er (ei+(q:Int)) 0 0 0 false (by rw[<-Bool.not_eq_true,Gid.eqb_iff];intro e;injection e with e1 e2;injection e1 with e3 e4;omega);have k6:IntKind.i64.wrap (ei+(q:Int))=(ei+(q:Int)):=by rw[bz];omega
     have hszr:=HBr.out.size;have HRr:=hid (HRW.out wr HBr.out);have HBZ:=hid ((HBr.out.alloc hszr (.cells #[(0:Int),(0:Int),(0:Int)] 108)).drew);have HZ0:=hid (show(wr.alloc (.cells #[(0:Int),(0:Int),(0:Int)] 108)).drew.heap[wr.heap.size]? =some (.cells #[(0:Int),(0:Int),(0:Int)] 108 (0,0)) from am wr (.cells #[(0:Int),(0:Int),(0:Int)] 108));have HTZ:=hid (show(wr.alloc (.cells #[(0:Int),(0:Int),(0:Int)] 108)).drew.there wr.heap.size 0 3 from there_of HZ0.out);have HAX:=hid (show(#[.int .i64 et,.int .i64 er,.int .i64 (ei+(q:Int))]:Array Value).all (·.oneCell')=true by rw[<-cg];rfl);have HALL:=hid (show(#[.int .i64 et,.int .i64 er,.int .i64 (ei+(q:Int))]:Array Value).toList.all (·.oneCell')=true from rfl);obtain⟨wv,hV⟩:∃V,V=(wr.alloc (.cells #[(0:Int),(0:Int),(0:Int)] 108)).drew.setCells wr.heap.size 0 (#[.int .i64 et,.int .i64 er,.int .i64 (ei+(q:Int))]:Array Value).toList:=⟨_,rfl⟩;have hVr:wv=(wr.alloc (.cells #[(0:Int),(0:Int),(0:Int)] 108)).drew.setRow wr.heap.size #[.int .i64 et,.int .i64 er,.int .i64 (ei+(q:Int))]:=by rw[hV];exact fk _ _ _ _ _ _ HZ0.out
     have HBVr:=hid (show Below wr.heap.size wr wv by rw[hVr];exact Below.setRow' (((ag _ _).alloc (aa _) _).drew) (aa _) _);have HX:=hid (show wv.heap[wr.heap.size]? =some (.cells #[et,er,.int .i64 (ei+(q:Int))] 108 (0,0)) by rw[hVr];exact aM _ HZ0.out);have HBV:=hid (HBr.out.trans (HBVr.out.mono hszr));have HV:=hid hV;have HOV:=kO HO HBVr.out;have HPV:=hid (HP.out.below HBVr.out);have HAV:=bK HBVr.out HA;have HPT:=hid (cd HPT0.out hpl HBVr.out);have HPL0:=hid (bC hpl HBVr.out.size);have NXB:=hid (show(Value.slice A' m c').ownBlock≠some wr.heap.size from λe=>by have:=(HO.out.lt _ e).2;omega);clear hst2 hpr hV hVr hpe;go_upto_region 10 with fail;refine aR (S:=λW'=>W'.rangeAt rb (ro+k*7) [.int .i64 at_,.int .i64 ar,.int .i64 ai,.int .i64 et,.int .i64 er,.int .i64 ei,.string tx]) (by kernel_rfl) ?_
     try(change wpAnyH _ _ _ _ _ _ _ _ (World.drew _))
     refine tk 0 (.slice (some ⟨rb,ro,none⟩) L.length c) (HRr.out) ?_;go_simp;refine tk 1 (.int .i64 (k:Int)) (HRr.out) ?_;go_simp;refine tk 2 (.pointer (some ⟨rb,ro+k*7,none⟩)) (HRr.out) ?_;go_simp;refine tk 3 (.pointer (some ⟨rb,ro+k*7+3,none⟩)) (HRr.out) ?_;go_simp;refine tk 4 (.pointer (some ⟨rb,ro+k*7+3,none⟩)) (HRr.out) ?_;go_simp;refine tk2 5 (.agg #[et,er]) rfl (aT (by rfl) _ _ rfl rb (ro+k*7+3) rfl [.int .i64 et,.int .i64 er] _ (λW' hW'=>bv (pre:=[.int .i64 at_,.int .i64 ar,.int .i64 ai]) (mid:=[.int .i64 et,.int .i64 er]) (post:=[.int .i64 ei,.string tx]) (hW')) cb rfl (by kernel_rfl)) (HRr.out) ?_;go_simp;refine tk 6 (.slice (some ⟨rb,ro,none⟩) L.length c) (HRr.out) ?_;go_simp;refine tk 7 (.int .i64 (k:Int)) (HRr.out) ?_;go_simp;refine tk 8 (.pointer (some ⟨rb,ro+k*7,none⟩)) (HRr.out) ?_;go_simp;refine tk 9 (.pointer (some ⟨rb,ro+k*7+3,none⟩)) (HRr.out) ?_;go_simp;refine tk 10 (.pointer (some ⟨rb,ro+k*7+3+2,none⟩)) (HRr.out) ?_;go_simp;refine tk2 11 (.int .i64 ei) rfl (Or.inl ⟨by rfl,λW' hW'=>by(have c_:W'.cell? ⟨rb,ro+k*7+3+2,none⟩=some (.int .i64 ei):=hW' 5 _ rfl;go_simp)⟩) (HRr.out) ?_;go_simp;refine tk 12 (.int .i64 (q:Int)) (HRr.out) ?_;go_simp;refine tk 13 (.int .i64 (ei+(q:Int))) (HRr.out) ?_;go_simp;refine tk 14 (.agg #[et,er,.int .i64 (ei+(q:Int))]) (HRr.out) ?_;go_simp;refine rd1 15 λK hK=> ?_;go_simp;refine hK.out _ _ (HRW.out _ HBZ.out) (λ_=> ?_);clear hK K;refine rd1 16 λK hK=> ?_
     refine cy rfl _ _ _ rfl wr.heap.size 0 #[.int .i64 et,.int .i64 er,.int .i64 (ei+(q:Int))] (by rfl) (by rfl) HTZ.out (by kernel_rfl) HAX.out ?_;rw[<-HV.out];refine hK.out _ _ (HRW.out _ HBV.out) (λ_=> ?_);clear hK K;refine be (by kernel_rfl) ?_ _;go_simp;generalize hxb:wr.heap.size=xB at *;clear hxb HZ0 HTZ HBZ HBVr HPT0 HRr HO HBr HP HA HV hpl;go_upto_region 13 with(refine lA HX aw ?_);go_loopw [10,11] (λh i wr=>∃(j:Nat) (b:Bool),j<=m∧i= .int .i64 j∧h= .bool b∧Hid (b=(M.take j).any (λy:Elt=>Gid.eqb y.id ⟨⟨et,er⟩,ei+(q:Int)⟩))∧Hid (Below wv.heap.size wv wr)) (λh i _=>m-(RowKit.intOf i).toNat)
     case atStart=>exact⟨0,false,aq _,rfl,rfl,hid rfl,hid (ag _ _)⟩
     case round=>
      obtain⟨j,b,hj,rfl,rfl,HB,HBj⟩:=hrel;have HBw:=bT HBV HBj.out;have HOj:=kO HOV HBj.out;by_cases hjm:j<m
      ·have j1:(0:Int)<=(j:Int):=by omega
       have j2:(j:Int)<(m:Int):=by omega
       obtain⟨g2,rfl,-,hg2,hr2⟩:=cz (f:=eltL) (λ_=>rfl) HML.out HOj.out hjm elt0;have htk:(M.take (j+1)).any (λy:Elt=>Gid.eqb y.id ⟨⟨et,er⟩,ei+(q:Int)⟩)=((M.take j).any (λy:Elt=>Gid.eqb y.id ⟨⟨et,er⟩,ei+(q:Int)⟩) || (λy:Elt=>Gid.eqb y.id ⟨⟨et,er⟩,ei+(q:Int)⟩) (M.getD j elt0)):=by rw[dF (by rw[<-HML.out];exact hjm) elt0,jp];simp
       generalize M.getD j elt0=y at *;obtain⟨⟨⟨t2,r2⟩,n2⟩,⟨⟨u2,v2⟩,i2⟩,p2⟩:=y;obtain⟨b2,hb2⟩:∃b,b=(λy:Elt=>Gid.eqb y.id ⟨⟨et,er⟩,ei+(q:Int)⟩) ⟨⟨⟨t2,r2⟩,n2⟩,⟨⟨u2,v2⟩,i2⟩,p2⟩:=⟨_,rfl⟩;have q1:=eJ t2 r2 n2 et er (ei+(q:Int)) b2 hb2.symm;have HTK:=hid (show(M.take (j+1)).any (λy:Elt=>Gid.eqb y.id ⟨⟨et,er⟩,ei+(q:Int)⟩)=(b || b2) by rw[htk,HB.out,hb2]);have y0:=aj (w:=wr) (a:=⟨g2,j*7,none⟩) (v:= .int .i64 t2) (hr2 0 _ rfl);have y1:=aj (w:=wr) (a:=⟨g2,j*7+1,none⟩) (v:= .int .i64 r2) (hr2 1 _ rfl);have y2:=aj (w:=wr) (a:=⟨g2,j*7+2,none⟩) (v:= .int .i64 n2) (hr2 2 _ rfl);have hxr:=(HBj.out.block _ (lt_of_block HX.out)).trans HX.out;have x0:=aj (w:=wr) (a:=⟨xB,0,none⟩) (v:= .int .i64 et) (crw hxr);have x1:=aj (w:=wr) (a:=⟨xB,1,none⟩) (v:= .int .i64 er) (crw hxr);have x2:=aj (w:=wr) (a:=⟨xB,2,none⟩) (v:= .int .i64 (ei+(q:Int))) (crw hxr);clear hxr;clear hr2 hb2 htk;cases b with
       |true=>
        go_upto_region 15 with fail;refine rqb ?_
        repeat(any_goals(first|go_big_quiet_step (fail)|quiet_step (fail)))
        refine qz λwq hBq=> ?_;go_wp2;go_roundw
        case rel=>exact⟨j+1,true,by omega,by go_num,rfl,hid (by rw[HTK.out];rfl),bT HBj hBq⟩
        case measure=>(simp[RowKit.intOf];omega)
       |false=>
        go_upto_region 15 with fail;refine rqb ?_
        repeat(any_goals(first|go_big_quiet_step (fail)|quiet_step (fail)))
        refine qz λwq hBq=> ?_;go_wp2;go_roundw
        case rel=>exact⟨j+1,b2,by omega,by go_num,rfl,hid (by rw[HTK.out];rfl),bT HBj hBq⟩
        case measure=>(simp[RowKit.intOf];omega)
      ·obtain rfl:j=m:=by omega
       have j2:¬(j:Int)<(j:Int):=by omega
       have hany:b=M.any (λy:Elt=>Gid.eqb y.id ⟨⟨et,er⟩,ei+(q:Int)⟩):=by rw[HB.out,HML.out,aK]
       cases b with
       | true=>
        have HS9:=hid (show(((ik ⟨⟨⟨at_,ar⟩,ai⟩,⟨⟨et,er⟩,ei⟩,tx⟩).take (q+1)).foldl ew N)=M.map (·.id) by rw[HST2.out];unfold ew;rw[any_map,aJ hany.symm]);clear hany;have HXr:=bK HBj.out HX;have HAr:=bK HBj.out HAV;have HPr:=hid (HPV.out.agr (Agr.below HBj.out));go_upto_region 18 with fail;obtain⟨V3,hV3⟩:∃V,V=wr.setRow aB #[.int .i64 et,.int .i64 er,.int .i64 (ei+(q:Int))]:=⟨_,rfl⟩;have HV3:=hid hV3;have HA3:=hid (show V3.heap[aB]? =some (.cells #[et,er,.int .i64 (ei+(q:Int))] 108 (0,0)) by rw[hV3];exact aM _ HAr.out);have HB3:=hid (show Below w.heap.size w V3 by rw[hV3];exact Below.setRow' HBw.out HAB.out _);have HG3:=hid (show wr.grownBy V3 (some aB) by rw[hV3];exact dR _ _ _);have HO3:=hid (HOj.out.kept HG3.out (.inr NAB.out));have HP3:=hid (HPr.out.agr (Agr.grown HG3.out (λg e1 e2=>by cases e1;exact absurd (show aB=pb from e2) (by have:=HPA.out;omega))));clear hV3
        go_wp2_with (first
         |(refine lA HXr aw ?_)
         |(refine da rfl _ _ _ rfl aB 108 #[.int .i64 qt,.int .i64 qr,.int .i64 qi] #[.int .i64 et,.int .i64 er,.int .i64 (ei+(q:Int))] rfl rfl HAr.out (by kernel_rfl) rfl HALL.out ?_;rw[<-HV3.out]))
        go_roundw
        case rel=>exact⟨q+1,A',c',j,M,et,er,(ei+(q:Int)),by omega,by go_num,rfl,by omega,HML,hid HS9.out.symm,HO3,HB3,HA3,HP3,NPB,NAB⟩
        case measure=>(simp[RowKit.intOf];omega)
       | false=>
        have HS9:=hid (show(((ik ⟨⟨⟨at_,ar⟩,ai⟩,⟨⟨et,er⟩,ei⟩,tx⟩).take (q+1)).foldl ew N)=(M++[(⟨⟨⟨et,er⟩,ei+(q:Int)⟩,⟨⟨qt,qr⟩,qi⟩,pt⟩:Elt)]).map (·.id) by rw[HST2.out];unfold ew;rw[any_map,aC (by rw[<-hany];decide),bq];rfl);clear hany;have HXr:=bK HBj.out HX;have HAr:=bK HBj.out HAV;have HPr:=hid (HPV.out.agr (Agr.below HBj.out));have HRx:=hid (show wr.rangeAt xB 0 [.int .i64 et,.int .i64 er,.int .i64 (ei+(q:Int))] from bf HXr.out);have HRa:=hid (show wr.rangeAt aB 0 [.int .i64 qt,.int .i64 qr,.int .i64 qi] from bf HAr.out);have HRp:=hid (show wr.rangeAt pb (po+q) [.string pt] by have h9:=cd HPT.out HPL0.out HBj.out;rwa[jE] at h9);have HPL:=hid (bC HPL0.out HBj.out.size);have hszw:=HBw.out.size;go_upto_region 17 with fail;refine aR (S:=λW'=>W'.rangeAt xB 0 [.int .i64 et,.int .i64 er,.int .i64 (ei+(q:Int))]∧W'.rangeAt aB 0 [.int .i64 qt,.int .i64 qr,.int .i64 qi]∧W'.rangeAt pb (po+q) [.string pt]) (by kernel_rfl) ?_
        try(change wpAnyH _ _ _ _ _ _ _ _ (World.drew _))
        refine tk 0 (.slice A' j c') (⟨HRx.out,HRa.out,HRp.out⟩) ?_;go_simp;refine tk2 1 (.agg #[et,er,.int .i64 (ei+(q:Int))]) rfl (aT (by rfl) _ _ rfl xB (0) rfl [.int .i64 et,.int .i64 er,.int .i64 (ei+(q:Int))] _ (λW' hW'=>bv (pre:=[]) (mid:=[.int .i64 et,.int .i64 er,.int .i64 (ei+(q:Int))]) (post:=[]) (hW'.1)) aw rfl (by kernel_rfl)) (⟨HRx.out,HRa.out,HRp.out⟩) ?_;go_simp;refine tk2 2 (.agg #[qt,qr,qi]) rfl (aT (by rfl) _ _ rfl aB (0) rfl [.int .i64 qt,.int .i64 qr,.int .i64 qi] _ (λW' hW'=>bv (pre:=[]) (mid:=[.int .i64 qt,.int .i64 qr,.int .i64 qi]) (post:=[]) (hW'.2.1)) aw rfl (by kernel_rfl)) (⟨HRx.out,HRa.out,HRp.out⟩) ?_;go_simp;refine tk 3 (.slice (some ⟨pb,po,none⟩) (cntD tx) pc) (⟨HRx.out,HRa.out,HRp.out⟩) ?_;go_simp;refine tk 4 (.int .i64 (q:Int)) (⟨HRx.out,HRa.out,HRp.out⟩) ?_;go_simp;refine tk 5 (.pointer (some ⟨pb,po+q,none⟩)) (⟨HRx.out,HRa.out,HRp.out⟩) ?_;go_simp;refine tk2 6 (.string pt) rfl (Or.inl ⟨by rfl,λW' hW'=>by(have c_:W'.cell? ⟨pb,po+q,none⟩=some (.string pt):=hW'.2.2 0 _ rfl;go_simp)⟩) (⟨HRx.out,HRa.out,HRp.out⟩) ?_;go_simp;refine tk 7 (.agg #[et,er,.int .i64 (ei+(q:Int)),qt,qr,qi,pt]) (⟨HRx.out,HRa.out,HRp.out⟩) ?_;go_simp;have hsA:(wr.alloc (.cells #[et,er,.int .i64 (ei+(q:Int)),qt,qr,qi,pt] 169)).drew.heap.size=wr.heap.size+1:=by show(wr.alloc _).heap.size=_;simp
        have HDN:=hid (HOj.out.alloc (.cells #[et,er,.int .i64 (ei+(q:Int)),qt,qr,qi,pt] 169));have HNC:=hid (λ(i:Nat) (y:Value) (h:([.int .i64 et,.int .i64 er,.int .i64 (ei+(q:Int)),.int .i64 qt,.int .i64 qr,.int .i64 qi,.string pt]:List Value)[i]? =some y)=>dH wr [.int .i64 et,.int .i64 er,.int .i64 (ei+(q:Int)),.int .i64 qt,.int .i64 qr,.int .i64 qi,.string pt] 169 i y h);have HOC:=hid (show ∀u∈([.int .i64 et,.int .i64 er,.int .i64 (ei+(q:Int)),.int .i64 qt,.int .i64 qr,.int .i64 qi,.string pt]:List Value),u.oneCell'=true from fw (c:=#[.int .i64 et,.int .i64 er,.int .i64 (ei+(q:Int)),.int .i64 qt,.int .i64 qr,.int .i64 qi,.string pt]) rfl);have HBA:=hid ((HBw.out.alloc HBw.out.size (.cells #[et,er,.int .i64 (ei+(q:Int)),qt,qr,qi,pt] 169)).drew);have HGA:=hid (show Below wr.heap.size wr (wr.alloc (.cells #[et,er,.int .i64 (ei+(q:Int)),qt,qr,qi,pt] 169)).drew from((ag _ _).alloc (aa _) _).drew);refine rd1 8 λK hK=> ?_;go_simp;refine hK.out _ _ (⟨cd HRx.out (lt_of_block HXr.out) HGA.out,cd HRa.out (lt_of_block HAr.out) HGA.out,cd HRp.out HPL.out HGA.out⟩) (λ_=> ?_);clear hK K;refine rd1 9 λK hK=> ?_
        refine dW _ (by rfl) _ _ 112 (by rfl) w.heap.size 169 i0 (.agg #[(0:Int),(0:Int),(0:Int),(0:Int),(0:Int),(0:Int),.string ⟨#[]⟩]) 7 64 Tryz.underlying112 hi hz0 hz1 hz2 rfl (by decide) (.slice A' j c') j _ (by rfl) (by exact HDN.out) ⟨wr.heap.size,0,none⟩ 1 1 [.int .i64 et,.int .i64 er,.int .i64 (ei+(q:Int)),.int .i64 qt,.int .i64 qr,.int .i64 qi,.string pt] (by rfl) (by rfl) (by exact HNC.out) HOC.out (by decide) (by unfold maxLen;omega) (by omega) (by rw[hsA];have:=HBw.out.size;omega) (wr.heap.size+1) hsA ?_;intro gq cap w5 hown1 hgrow hat hlt3;have HO5:=hid hown1;have HB5:=hid (HBA.out.grown hgrow (by rw[hsA];have:=HBw.out.size;omega) (λb hb=>(HOj.out.lt b hb).1));have HX5:=hid ((hgrow.block xB (by rw[hsA];have:=lt_of_block HXr.out;omega) (λe=>NXB.out e.symm)).trans ((HGA.out.block _ (lt_of_block HXr.out)).trans HXr.out));have HA5:=hid ((hgrow.block aB (by rw[hsA];have:=lt_of_block HAr.out;omega) (λe=>NAB.out e.symm)).trans ((HGA.out.block _ (lt_of_block HAr.out)).trans HAr.out));have HP5:=hid ((HPr.out.below HGA.out).agr (Agr.grown hgrow (λg e1 e2=>NPB.out (e1.trans (congrArg some e2)))));have NA5:=hid (show(Value.slice (some ⟨gq,0,none⟩) (j+1) cap).ownBlock≠some aB from λe=>by(injection (show some gq=some aB from e) with e;rcases hat with h|h;exact NAB.out (by rw[h,e]);have:=lt_of_block HAr.out;omega))
        have NP5:=hid (show(Value.slice (some ⟨gq,0,none⟩) (j+1) cap).ownBlock≠some pb from λe=>by(injection (show some gq=some pb from e) with e;rcases hat with h|h;exact NPB.out (by rw[h,e]);have:=HPL.out;omega));have hgA:=(HGA.out.block _ (lt_of_block HXr.out));have HR5:=hid (show w5.rangeAt xB 0 [.int .i64 et,.int .i64 er,.int .i64 (ei+(q:Int))]∧w5.rangeAt aB 0 [.int .i64 qt,.int .i64 qr,.int .i64 qi]∧w5.rangeAt pb (po+q) [.string pt] from⟨bf HX5.out,bf HA5.out,range_block (cd HRp.out HPL.out HGA.out) (hgrow.block pb (by rw[hsA];have:=HPL.out;omega) (λe=>NPB.out e.symm))⟩);clear hown1 hgrow hat hlt3 hgA;refine hK.out _ _ (HR5.out) (λ_=> ?_);clear hK K;refine tk 10 (.slice (some ⟨gq,0,none⟩) (j+1) cap) (HR5.out) ?_;go_simp;refine be (by kernel_rfl) ?_ _;go_simp;go_upto_region 18 with fail;have HML5:=hid (show j+1=(M++[(⟨⟨⟨et,er⟩,ei+(q:Int)⟩,⟨⟨qt,qr⟩,qi⟩,pt⟩:Elt)]).length by rw[al,<-HML.out];rfl);have HO6:=hid (show w5.ownsRow w.heap.size 169 7 (.slice (some ⟨gq,0,none⟩) (j+1) cap) (j+1) ((M++[(⟨⟨⟨et,er⟩,ei+(q:Int)⟩,⟨⟨qt,qr⟩,qi⟩,pt⟩:Elt)]).flatMap eltL) by rw[aI];exact HO5.out);obtain⟨V3,hV3⟩:∃V,V=w5.setRow aB #[.int .i64 et,.int .i64 er,.int .i64 (ei+(q:Int))]:=⟨_,rfl⟩;have HV3:=hid hV3;have HA3:=hid (show V3.heap[aB]? =some (.cells #[et,er,.int .i64 (ei+(q:Int))] 108 (0,0)) by rw[hV3];exact aM _ HA5.out)
        have HB3:=hid (show Below w.heap.size w V3 by rw[hV3];exact Below.setRow' HB5.out HAB.out _);have HG3:=hid (show w5.grownBy V3 (some aB) by rw[hV3];exact dR _ _ _);have HO3:=hid (HO6.out.kept HG3.out (.inr NA5.out));have HP3:=hid (HP5.out.agr (Agr.grown HG3.out (λg e1 e2=>by cases e1;exact absurd (show aB=pb from e2) (by have:=HPA.out;omega))));clear hV3
        go_wp2_with (first
         |(refine lA HX5 aw ?_)
         |(refine da rfl _ _ _ rfl aB 108 #[.int .i64 qt,.int .i64 qr,.int .i64 qi] #[.int .i64 et,.int .i64 er,.int .i64 (ei+(q:Int))] rfl rfl HA5.out (by kernel_rfl) rfl HALL.out ?_;rw[<-HV3.out]))
        go_roundw
        case rel=>exact⟨q+1,some ⟨gq,0,none⟩,cap,j+1,M++[(⟨⟨⟨et,er⟩,ei+(q:Int)⟩,⟨⟨qt,qr⟩,qi⟩,pt⟩:Elt)],et,er,(ei+(q:Int)),by omega,by go_num,rfl,by omega,HML5,hid HS9.out.symm,HO3,HB3,HA3,HP3,NP5,NA5⟩
        case measure=>(simp[RowKit.intOf];omega)
    ·obtain rfl:q=cntD tx:=by omega
     have j2:¬((cntD tx:Nat):Int)<((cntD tx:Nat):Int):=by omega
     have HM9:=hid (show M.map (·.id)=gN (L.take (k+1)) by rw[HST.out];have h9:=HM.out;rw[<-names_len (⟨⟨⟨at_,ar⟩,ai⟩,⟨⟨et,er⟩,ei⟩,tx⟩:Rn),aK] at h9;exact h9);go_wp2;go_roundw
     case rel=>exact⟨k+1,A',c',m,M,by omega,by go_num,rfl,by omega,HML,HM9,HO,HBr⟩
     case measure=>(simp[RowKit.intOf];omega)
  ·obtain rfl:k=L.length:=by omega
   have i2:¬(L.length:Int)<(L.length:Int):=by omega
   have HM9:=hid (show M.map (·.id)=gN L by have h9:=HM.out;rw[aK] at h9;exact h9);go_wp2;go_ret;exact⟨A',c',m,rfl,M,HML.out,HM9.out,hmk,HO.out,HBr.out⟩
def sortI (l:List Gid):List Gid:=l.foldl (λout x=>insB (λy:Gid=>x.lt y) Gid.zero out x) []
def stepE (out:List Gid) (e:Elt):List Gid:=insB (λy:Gid=>e.id.lt y) Gid.zero out e.id
theorem stepE_map (N:List Elt):N.foldl stepE []=sortI (N.map (·.id)):=by unfold sortI;rw[List.foldl_map];rfl
theorem foldE_len:∀(l:List Gid) (out:List Gid),(l.foldl (λout x=>insB (λy:Gid=>x.lt y) Gid.zero out x) out).length=out.length+l.length
 | [],out=>rfl
 |x::l,out=>by rw[dU,foldE_len l,j0,bG];omega
theorem sortI_len (l:List Gid):(sortI l).length=l.length:=by unfold sortI;rw[foldE_len];simp
def fP (L:List (Grp×GrX)) (x:Gid):List Gid:=sortI (gN (fK x L))
theorem elements_any (L:List (Grp×GrX)) (A:Option Addr) (c:Nat) (xt xr xi:Int) (S:Nat->Prop) (w00:World) (hl:L.length<=1000) (hlo:∀p∈L,p.1.ops.length<=1000) (hrl:(fK ⟨⟨xt,xr⟩,xi⟩ L).length<=100) (hh:∀p∈fK ⟨⟨xt,xr⟩,xi⟩ L,p.tx.size<=1000∧0<p.el.s.t∧0<=p.el.i∧p.el.i<=1000000) (hR:RowGr w00 A L) (hG:∀p∈L,GrG w00 S p):
  Calls Tryz.prog 146 #[.slice A L.length c,.agg #[xt,xr,xi]] w00 λe w'=>∃A' c',e= .returned (.slice A' (fP L ⟨⟨xt,xr⟩,xi⟩).length c')∧w'.ownsRow w00.heap.size 108 3 (.slice A' (fP L ⟨⟨xt,xr⟩,xi⟩).length c') (fP L ⟨⟨xt,xr⟩,xi⟩).length ((fP L ⟨⟨xt,xr⟩,xi⟩).flatMap idL)∧Below w00.heap.size w00 w':=by
 obtain⟨i0,hi,hz0,hz1,hz2⟩:=bD info_id;have hb0:Below w00.heap.size w00 (w00.alloc (.cells #[xt,xr,xi] 108)):=(ag _ _).alloc (aa _) _;have HB0:=hid hb0;have HXC:=hid (am w00 (.cells #[xt,xr,xi] 108));have HRU:=hid (runs_any L A c xt xr xi S (w00.alloc (.cells #[xt,xr,xi] 108)) hl hlo (hR.below hb0) (λp hp=>(hG p hp).agr (Agr.below hb0)));obtain⟨R,hRd⟩:∃R,R=fK ⟨⟨xt,xr⟩,xi⟩ L:=⟨_,rfl⟩;obtain⟨Z,hZd⟩:∃Z,Z=fP L ⟨⟨xt,xr⟩,xi⟩:=⟨_,rfl⟩;have HZ:=hid (show Z=sortI (gN R) by rw[hZd,hRd];rfl);rw[<-hZd];rw[<-hRd] at HRU hrl hh;have HH:=hid hh;clear hR hG hb0 hlo hRd hZd hh;go_enter Tryz.func146,Tryz.ntmps146;go_upto_region 1 with fail;generalize hW:w00.alloc (.cells #[xt,xr,xi] 108)=w0 at *;clear hW
 go_upto_region 4 with(first
  |(refine lA HXC aw ?_)
  |(go_at_call 115;refine HRU.out.mono ?_;rintro e w1 ⟨A1,c1,rfl,hown1,hB1⟩;have HEL:=hid (elements9_any R A1 c1 _ w1 (by omega) HH.out (ct (z:=rn0) (λ_=>rfl) rfl hown1));have HB1:=hid hB1;clear hown1 hB1)
  |(go_at_call 183;refine HEL.out.mono ?_;rintro e w ⟨A2,c2,n2,N,rfl,hn2,hNm,hn3,hown2,hB2⟩;have HN2:=hid hn2;have HNM:=hid hNm;have HO2:=hid hown2;have HB2:=hid hB2;clear hn2 hNm hown2 hB2))
 go_loopw [6,7] (λo i wr=>∃(k:Nat) (A':Option Addr) (c' m:Nat) (M:List Gid),k<=n2∧i= .int .i64 k∧o= .slice A' m c'∧m<=k∧Hid (m=M.length)∧Hid (M=(N.take k).foldl stepE [])∧Hid (wr.ownsRow w.heap.size 108 3 (.slice A' m c') m (M.flatMap idL))∧Hid (Below w.heap.size w wr)) (λo i _=>n2-(RowKit.intOf i).toNat)
 case atStart=>exact⟨0,none,0,0,[],aq _,rfl,rfl,aa _,hid rfl,hid rfl,hid (aF w w.heap.size 108 3),hid (ag _ _)⟩
 case round=>
  obtain⟨k,A',c',m,M,hk,rfl,rfl,hmk,HML,HM,HO,HBr⟩:=hrel;by_cases hlt:k<n2
  ·have i1:(0:Int)<=(k:Int):=by omega
   have i2:(k:Int)<(n2:Int):=by omega
   obtain⟨rb,rfl,-,hrb,hrange⟩:=cz (f:=eltL) (λ_=>rfl) HN2.out HO2.out hlt elt0;have hst:((N.take (k+1)).foldl stepE [])=stepE M (N.getD k elt0):=by rw[HM.out];exact eL _ _ (by rw[<-HN2.out];exact hlt) elt0
   generalize N.getD k elt0=p at *;obtain⟨⟨⟨t,r⟩,n⟩,⟨⟨u,v⟩,i⟩,pc⟩:=p;have HST:=hid hst;have hsz:=HBr.out.size;have hm63:m<=100000:=by omega
   have HPX:=hid (show wr.rangeAt rb (k*7) [.int .i64 t,.int .i64 r,.int .i64 n] from bv (pre:=[]) (mid:=[.int .i64 t,.int .i64 r,.int .i64 n]) (post:=[.int .i64 u,.int .i64 v,.int .i64 i,.string pc]) (cd hrange hrb HBr.out));have HS9:=hid (show((N.take (k+1)).foldl stepE [])=insB (λy:Gid=>Gid.lt ⟨⟨t,r⟩,n⟩ y) Gid.zero M ⟨⟨t,r⟩,n⟩ by rw[HST.out];rfl);clear hst hrange hrb
   go_upto_region 7 with(first
    |(refine lM HPX aw ?_)
    |(at_builtin;refine bX _ rfl _ _ 123 rfl w.heap.size 108 i0 (.agg #[(0:Int),(0:Int),(0:Int)]) 3 24 eQ hi hz0 hz1 hz2 rfl (by decide) (.slice A' m c') m _ rfl (by exact HO.out.alloc _) ⟨wr.heap.size,0,none⟩ 1 1 [.int .i64 t,.int .i64 r,.int .i64 n] rfl rfl (λj y h=>dH wr [.int .i64 t,.int .i64 r,.int .i64 n] 108 j y h) (fw (c:=#[.int .i64 t,.int .i64 r,.int .i64 n]) rfl) (by decide) (by unfold maxLen;omega) (by omega) (by simp;omega) (wr.heap.size+1) (by simp) ?_;intro gq cap w5 hown hgrow ha hlt5;have HO5:=hid hown;have HB5:=hid ((HBr.out.alloc hsz _).grown hgrow (by simp;omega) (λb hb=>(HO.out.lt b hb).1));clear hown hgrow ha hlt5))
   go_upto_region 8 with fail;clear HPX HO HBr HST HM;have hs9:slid M (⟨⟨t,r⟩,n⟩:Gid) m=M++[⟨⟨t,r⟩,n⟩]:=by rw[HML.out];exact ju _ _
   have HO6:=hid (show w5.ownsRow w.heap.size 108 3 (.slice (some ⟨gq,0,none⟩) (m+1) cap) (m+1) ((slid M (⟨⟨t,r⟩,n⟩:Gid) m).flatMap idL) by rw[hs9,aI];exact HO5.out);clear hs9 HO5;generalize w5=w6 at *;go_loopw [8] (λi wx=>∃(q:Nat),i= .int .i64 q∧q<=m∧Hid (dY (λy:Gid=>Gid.lt ⟨⟨t,r⟩,n⟩ y) .zero M q=dY (λy:Gid=>Gid.lt ⟨⟨t,r⟩,n⟩ y) .zero M M.length)∧Hid (wx.ownsRow w.heap.size 108 3 (.slice (some ⟨gq,0,none⟩) (m+1) cap) (m+1) ((slid M (⟨⟨t,r⟩,n⟩:Gid) q).flatMap idL))∧Hid (Below w.heap.size w wx)) (λi _=>(RowKit.intOf i).toNat)
   case atStart=>exact⟨m,rfl,aa _,hid (by rw[HML.out]),HO6,HB5⟩
   case round=>
    obtain⟨q,rfl,hq,HIX,HOq,HBq⟩:=hrel;by_cases h0:0<q
    ·obtain⟨q,rfl⟩:∃p,q=p+1:=⟨q-1,by omega⟩;have hqm:q+1<=M.length:=by rw[<-HML.out];exact hq
     have hl1:m+1=(slid M (⟨⟨t,r⟩,n⟩:Gid) (q+1)).length:=by rw[eO,<-HML.out]
     obtain⟨g3,e3,-,hg3,hr3⟩:=cz (f:=idL) (λ_=>rfl) hl1 HOq.out (k:=q) (by omega) .zero;cases e3;obtain⟨g4,e4,-,-,hr4⟩:=cz (f:=idL) (λ_=>rfl) hl1 HOq.out (k:=q+1) (by omega) .zero;cases e4;rw[js hqm] at hr3;rw[ku hqm] at hr4;have hsw:=ip (L:=M) (x:=(⟨⟨t,r⟩,n⟩:Gid)) (z:= .zero) hqm;obtain⟨y,hy⟩:∃y,y=M.getD q .zero:=⟨_,rfl⟩;rw[<-hy] at hr3 hsw;obtain⟨b2,hb2⟩:∃b,b=(λy:Gid=>Gid.lt ⟨⟨t,r⟩,n⟩ y) y:=⟨_,rfl⟩;have HPY:=hid (show(λy:Gid=>Gid.lt ⟨⟨t,r⟩,n⟩ y) (M.getD q .zero)=b2 by rw[<-hy,hb2]);clear hy;obtain⟨⟨t2,r2⟩,n2⟩:=y;have HR3:=hid (show wr.rangeAt gq (q*3) [.int .i64 t2,.int .i64 r2,.int .i64 n2] from hr3);have HR4:=hid (show wr.rangeAt gq ((q+1)*3) [.int .i64 t,.int .i64 r,.int .i64 n] from hr4);have y0:=aj (w:=wr) (a:=⟨gq,q*3,none⟩) (v:= .int .i64 t2) (hr3 0 _ rfl);have y1:=aj (w:=wr) (a:=⟨gq,q*3+1,none⟩) (v:= .int .i64 r2) (hr3 1 _ rfl);have y2:=aj (w:=wr) (a:=⟨gq,q*3+2,none⟩) (v:= .int .i64 n2) (hr3 2 _ rfl);have x0:=aj (w:=wr) (a:=⟨gq,(q+1)*3,none⟩) (v:= .int .i64 t) (hr4 0 _ rfl);have x1:=aj (w:=wr) (a:=⟨gq,(q+1)*3+1,none⟩) (v:= .int .i64 r) (hr4 1 _ rfl);have x2:=aj (w:=wr) (a:=⟨gq,(q+1)*3+2,none⟩) (v:= .int .i64 n) (hr4 2 _ rfl);have HSW:=hid hsw;have k1:(0:Int)<(q:Int)+1:=by omega
     have k2:(0:Int)<=(q:Int):=by omega
     have k3:(q:Int)<(m:Int)+1:=by omega
     have k4:(q:Int)+1<(m:Int)+1:=by omega
     have k5:(0:Int)<=(q:Int)+1:=by omega
     have k6:IntKind.i64.wrap (q:Int)=(q:Int):=by rw[bz];omega
     have HL1:=hid hl1;have HBF:=λW=>gx t r n t2 r2 n2 W;obtain⟨zc,hzc⟩:∃z,z=rcmpD ⟨⟨t,r⟩,n⟩ ⟨⟨t2,r2⟩,n2⟩:=⟨_,rfl⟩;rw[<-hzc] at HBF;have hz2:decide (0<=zc)= !b2:=by rw[hzc,jW,hb2]
     have hz3:decide (zc<0)=b2:=by cases b2<;>simp at hz2 ⊢ <;>omega
     clear hzc hz2;have cA:=λd os=>ay (HBF (grow (redrawn wr d) os));clear hr3 hr4 hb2 hsw hl1;cases b2 with
     |false=>
      go_upto_region 8 with fail;refine rqb ?_
      repeat(any_goals(first|go_big_quiet_step (with_reducible exact cA _ _)|quiet_step (with_reducible exact cA _ _)))
      refine qz λwq hBq=> ?_;have HS8:=hid (show((N.take (k+1)).foldl stepE [])=slid M (⟨⟨t,r⟩,n⟩:Gid) (q+1) by rw[HS9.out];unfold insB;rw[<-HIX.out,ge (.inr ⟨q,rfl,HPY.out⟩)]);have HOx:=kO HOq hBq;have HBx:=bT HBq hBq;go_wp2;go_roundw
      case rel=>exact⟨k+1,some ⟨gq,0,none⟩,cap,m+1,_,by omega,by go_num,rfl,by omega,HL1,hid HS8.out.symm,HOx,HBx⟩
      case measure=>(simp[RowKit.intOf];omega)
     | true=>
      go_upto_region 8 with fail;refine rqb ?_
      repeat(any_goals(first|go_big_quiet_step (with_reducible exact cA _ _)|quiet_step (with_reducible exact cA _ _)))
      refine qz λwq hBq=> ?_;have HIX2:=hid (show dY (λy:Gid=>Gid.lt ⟨⟨t,r⟩,n⟩ y) .zero M q=dY (λy:Gid=>Gid.lt ⟨⟨t,r⟩,n⟩ y) .zero M M.length by rw[<-HIX.out,iF HPY.out]);have HR3q:=hid (cd HR3.out hg3 hBq);have HR4q:=hid (cd HR4.out hg3 hBq);have HOq2:=kO HOq hBq;have HBq2:=bT HBq hBq;clear y0 y1 y2 x0 x1 x2 cA HOq hBq;go_upto_region 10 with fail;obtain⟨V1,hV1⟩:∃V,V=wq.drew.setCells gq ((q+1)*3) (#[.int .i64 t2,.int .i64 r2,.int .i64 n2]:Array Value).toList:=⟨_,rfl⟩;have hP1:V1.ownsRow w.heap.size 108 3 (.slice (some ⟨gq,0,none⟩) (m+1) cap) (m+1) (((slid M (⟨⟨t,r⟩,n⟩:Gid) (q+1)).set (q+1) (⟨⟨t2,r2⟩,n2⟩:Gid)).flatMap idL)∧wq.drew.grownBy V1 (some gq):=by rw[hV1];exact eP (f:=idL) (λ_=>rfl) (by decide) HL1.out (show wq.drew.ownsRow _ _ _ _ _ _ from HOq2.out) (by omega) (⟨⟨t2,r2⟩,n2⟩:Gid)
      obtain⟨V2,hV2⟩:∃V,V=V1.setCells gq (q*3) (#[.int .i64 t,.int .i64 r,.int .i64 n]:Array Value).toList:=⟨_,rfl⟩;have hP2:V2.ownsRow w.heap.size 108 3 (.slice (some ⟨gq,0,none⟩) (m+1) cap) (m+1) ((((slid M (⟨⟨t,r⟩,n⟩:Gid) (q+1)).set (q+1) (⟨⟨t2,r2⟩,n2⟩:Gid)).set q (⟨⟨t,r⟩,n⟩:Gid)).flatMap idL)∧V1.grownBy V2 (some gq):=by rw[hV2];exact eP (f:=idL) (λ_=>rfl) (by decide) (by rw[cM];exact HL1.out) hP1.1 (by omega) (⟨⟨t,r⟩,n⟩:Gid)
      obtain⟨g5,e5,ht5⟩:=ey (show wq.drew.ownsRow _ _ _ _ _ _ from HOq2.out) (k:=q+1) (by omega);cases e5;obtain⟨g6,e6,ht6⟩:=ey hP1.1 (k:=q) (by omega);cases e6;have HP2:=hid hP2.1;have HG2:=hid (show wq.heap.size<=V2.heap.size∧(Below w.heap.size w wq->w.heap.size<=gq->Below w.heap.size w V2) from⟨aL (show wq.drew.heap.size<=V1.heap.size from hP1.2.size) hP2.2.size,λhb hl=>(hb.drew.grown hP1.2 (by exact hb.size) (λb e=>by cases e;exact hl)).grown hP2.2 (aL hb.size (show wq.drew.heap.size<=V1.heap.size from hP1.2.size)) (λb e=>by cases e;exact hl)⟩);have HV1:=hid hV1;have HV2:=hid hV2;have HT5:=hid ht5;have HT6:=hid ht6;have HAY:=hid (show(#[.int .i64 t2,.int .i64 r2,.int .i64 n2]:Array Value).all (·.oneCell')=true by rw[<-cg];rfl);have HAX:=hid (show(#[.int .i64 t,.int .i64 r,.int .i64 n]:Array Value).all (·.oneCell')=true by rw[<-cg];rfl);clear hP1 hP2 hV1 hV2 ht5 ht6;refine aR (S:=λ_=>True) (by kernel_rfl) ?_
      try(change wpAnyH _ _ _ _ _ _ _ _ (World.drew _))
      refine tk 0 (.slice (some ⟨gq,0,none⟩) (m+1) cap) (trivial) ?_;go_simp;refine tk 1 (.int .i64 ((q:Int)+1)) (trivial) ?_;go_simp;refine tk 2 (.slice (some ⟨gq,0,none⟩) (m+1) cap) (trivial) ?_;go_simp;refine tk 3 (.int .i64 ((q:Int)+1)) (trivial) ?_;go_simp;refine tk 4 (.int .i64 (q:Int)) (trivial) ?_;go_simp;refine tk 5 (.slice (some ⟨gq,0,none⟩) (m+1) cap) (trivial) ?_;go_simp;refine tk 6 (.int .i64 ((q:Int)+1)) (trivial) ?_;go_simp;refine tk 7 (.int .i64 (q:Int)) (trivial) ?_;go_simp;refine tk 8 (.pointer (some ⟨gq,q*3,none⟩)) (trivial) ?_;go_simp;refine tk 10 (.slice (some ⟨gq,0,none⟩) (m+1) cap) (trivial) ?_;go_simp;refine tk 11 (.int .i64 ((q:Int)+1)) (trivial) ?_;go_simp;refine tk 12 (.pointer (some ⟨gq,(q+1)*3,none⟩)) (trivial) ?_;go_simp;refine dp (rs:=[9,13]) (by kernel_rfl) (by simp) ?_;refine aX rfl (λK hK=> ?_) (aX rfl (λK hK=> ?_) cX)
      focus
       refine bA rfl _ _ rfl gq (q*3) rfl [.int .i64 t2,.int .i64 r2,.int .i64 n2] _ (show wq.drew.rangeAt _ _ _ from HR3q.out) aw rfl (by kernel_rfl) ?_;refine hK.out _ _ (trivial) (λ_=> ?_);clear hK K;refine rd1 13 λK hK=> ?_;refine bA rfl _ _ rfl gq ((q+1)*3) rfl [.int .i64 t,.int .i64 r,.int .i64 n] _ (show wq.drew.rangeAt _ _ _ from HR4q.out) aw rfl (by kernel_rfl) ?_;refine hK.out _ _ (trivial) (λ_=> ?_);clear hK K
      rotate_left
      focus
       refine bA rfl _ _ rfl gq ((q+1)*3) rfl [.int .i64 t,.int .i64 r,.int .i64 n] _ (show wq.drew.rangeAt _ _ _ from HR4q.out) aw rfl (by kernel_rfl) ?_;refine hK.out _ _ (trivial) (λ_=> ?_);clear hK K;refine rd1 9 λK hK=> ?_;refine bA rfl _ _ rfl gq (q*3) rfl [.int .i64 t2,.int .i64 r2,.int .i64 n2] _ (show wq.drew.rangeAt _ _ _ from HR3q.out) aw rfl (by kernel_rfl) ?_;refine hK.out _ _ (trivial) (λ_=> ?_);clear hK K
      all_goals
       refine tk 14 (.pointer (some ⟨gq,(q+1)*3,none⟩)) (trivial) ?_;go_simp;refine rd1 15 λK hK=> ?_;refine cy rfl _ _ _ rfl gq ((q+1)*3) #[.int .i64 t2,.int .i64 r2,.int .i64 n2] (by rfl) (by rfl) HT5.out (by kernel_rfl) HAY.out ?_;rw[<-HV1.out];refine hK.out _ _ (trivial) (λ_=> ?_);clear hK K;refine tk 16 (.pointer (some ⟨gq,q*3,none⟩)) (trivial) ?_;go_simp;refine rd1 17 λK hK=> ?_;refine cy rfl _ _ _ rfl gq (q*3) #[.int .i64 t,.int .i64 r,.int .i64 n] (by rfl) (by rfl) HT6.out (by kernel_rfl) HAX.out ?_;rw[<-HV2.out];refine hK.out _ _ (trivial) (λ_=> ?_);clear hK K;refine be (by kernel_rfl) ?_ _;go_simp;go_wp2;go_roundw
       case rel=>exact⟨q,by go_num,by omega,HIX2,hid (by rw[<-HSW.out];exact HP2.out),hid (HG2.out.2 HBq2.out (HOq2.out.lt gq rfl).1)⟩
       case measure=>(simp[RowKit.intOf];try omega)
    ·obtain rfl:q=0:=by omega
     go_upto_region 8 with fail;refine rqb ?_
     repeat(any_goals(first|go_big_quiet_step (fail)|quiet_step (fail)))
     refine qz λwq hBq=> ?_;have HS8:=hid (show((N.take (k+1)).foldl stepE [])=slid M (⟨⟨t,r⟩,n⟩:Gid) 0 by rw[HS9.out];unfold insB;rw[<-HIX.out];rfl);have HL1:=hid (show m+1=(slid M (⟨⟨t,r⟩,n⟩:Gid) 0).length by rw[eO,<-HML.out]);have HOx:=kO HOq hBq;have HBx:=bT HBq hBq;go_wp2;go_roundw
     case rel=>exact⟨k+1,some ⟨gq,0,none⟩,cap,m+1,_,by omega,by go_num,rfl,by omega,HL1,hid HS8.out.symm,HOx,HBx⟩
     case measure=>(simp[RowKit.intOf];omega)
  ·obtain rfl:k=n2:=by omega
   have i2:¬(k:Int)<(k:Int):=by omega
   have HM9:=hid (show M=Z by rw[HZ.out,<-HNM.out,<-stepE_map];have h9:=HM.out;rw[HN2.out,aK] at h9;exact h9);go_wp2;go_ret;refine⟨A',c',by rw[<-HM9.out,<-HML.out];rfl,?_,HB0.out.trans ((HB1.out.trans ((HB2.out.trans (HBr.out.mono HB2.out.size)).mono HB1.out.size)).mono HB0.out.size)⟩;rw[<-HM9.out,<-HML.out];exact iC HO.out (aL HB0.out.size (aL HB1.out.size HB2.out.size))
end
end Go.Proofs.YtkhmicndehlneaaGreatDoor
