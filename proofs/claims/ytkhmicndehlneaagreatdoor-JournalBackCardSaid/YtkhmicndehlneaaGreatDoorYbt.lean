/- Part 20 of the walks and plain laws that this claim uses, joined. Conditions: as each theorem states. -/
import Derived.Test.YtkhmicndehlneaaGreatDoorYbs
namespace Go.Proofs.YtkhmicndehlneaaGreatDoor
set_option maxRecDepth 100000
set_option maxHeartbeats 16000000
set_option linter.unusedVariables false
section
open Go.RowKit Go.Lib Go.Sort
attribute [local go_sem ↓] Go.wp_at_zero Go.wp_at_succ
def opsM (p:Plc) (l:List Gop):List Plc:=(l.filter (λo=>decide (o.kind=0) && o.node.eqb p.n)).map λo=>⟨p.n,p.p,p.name,o.dir⟩
def iZ (L:List (Grp×GrX)) (p:Plc):List Plc:=L.flatMap λg=>opsM p g.1.ops
def gV (L:List (Grp×GrX)) (P:List Plc):List Plc:=P.flatMap (iZ L)
theorem opsM_succ (p:Plc) {l:List Gop} {j:Nat} (h:j<l.length):opsM p (l.take (j+1))=opsM p (l.take j)++(if (decide ((l.getD j (opO 0 .zero)).kind=0) && (l.getD j (opO 0 .zero)).node.eqb p.n)=true then [⟨p.n,p.p,p.name,(l.getD j (opO 0 .zero)).dir⟩] else []):=by
 unfold opsM;rw[dF h (opO 0 .zero),jD,bq];congr 1;generalize l.getD j (opO 0 .zero)=o;cases e:(decide (o.kind=0) && o.node.eqb p.n)<;>simp[List.filter,e]
theorem made_any (L:List (Grp×GrX)) (A:Option Addr) (c:Nat) (P:List Plc) (pA:Option Addr) (pc:Nat) (S S2:Nat->Prop) (w:World) (hl:L.length<=100) (hlo:∀p∈L,p.1.ops.length<=100) (hp:P.length<=10000) (hR:RowGr w A L) (hG:∀p∈L,GrG w S p) (hP:RowF w S2 pA 8 plcL plc0 P):
  Calls Tryz.prog 110 #[.slice A L.length c,.slice pA P.length pc] w λe w'=>∃A' c',e= .returned (.slice A' (gV L P).length c')∧w'.ownsRow w.heap.size 161 8 (.slice A' (gV L P).length c') (gV L P).length ((gV L P).flatMap plcL)∧Below w.heap.size w w':=by
 obtain⟨i0,hi,a4,a5,a6⟩:=bD info_plc;have HR:=hid hR;have HG:=hid hG;have HP:=hid hP;have a7:=hid hlo;clear hR hG hP hlo;go_enter Tryz.func110,Tryz.ntmps110;go_upto_region 3 with fail;go_loopw [5,6] (λo i wr=>∃(B:Nat) (A':Option Addr) (c' m:Nat),B<=P.length∧i= .int .i64 B∧o= .slice A' m c'∧m<=B*10000∧Hid (m=(gV L (P.take B)).length)∧Hid (wr.ownsRow w.heap.size 161 8 (.slice A' m c') m ((gV L (P.take B)).flatMap plcL))∧Hid (Below w.heap.size w wr)) (λo i _=>P.length-(RowKit.intOf i).toNat)
 case atStart=>exact⟨0,none,0,0,aq _,rfl,rfl,aq _,hid rfl,hid (aF _ _ _ _),hid (ag _ _)⟩
 case round=>
  obtain⟨B,A',c',m,bn,rfl,rfl,bm,H,K,D⟩:=hrel;by_cases ak:B<P.length
  ·have i1:(0:Int)<=(B:Int):=by omega
   have i2:(B:Int)<(P.length:Int):=by omega
   obtain⟨pb,po,rfl,-,aH,M⟩:=HP.out.range (λ_=>rfl) ak;have an:gV L (P.take (B+1))=gV L (P.take B)++iZ L (P.getD B plc0):=by rw[dF ak plc0];simp[gV]
   generalize gV L (P.take B)=N0 at *;generalize P.getD B plc0=q at *;obtain⟨⟨⟨d,f⟩,g⟩,⟨⟨l,s⟩,u⟩,z,C⟩:=q;have aL:=hid (λW (hB:Below w.heap.size w W)=>show W.rangeAt pb (po+B*8) [.int .i64 d,.int .i64 f,.int .i64 g,.int .i64 l,.int .i64 s,.int .i64 u,.string z,.bool C] from cd M aH hB);have ao:=hid an;clear M aH an;generalize wr=w0 at *;go_upto_region 6 with fail;go_loopw [5,7] (λo i wr=>∃(k:Nat) (A':Option Addr) (c' m:Nat),k<=L.length∧i= .int .i64 k∧o= .slice A' m c'∧m<=B*10000+k*100∧Hid (m=(N0++iZ (L.take k) ⟨⟨⟨d,f⟩,g⟩,⟨⟨l,s⟩,u⟩,z,C⟩).length)∧Hid (wr.ownsRow w.heap.size 161 8 (.slice A' m c') m ((N0++iZ (L.take k) ⟨⟨⟨d,f⟩,g⟩,⟨⟨l,s⟩,u⟩,z,C⟩).flatMap plcL))∧Hid (Below w.heap.size w wr)) (λo i _=>L.length-(RowKit.intOf i).toNat)
   case atStart=>exact⟨0,A',c',m,aq _,rfl,rfl,by omega,hid (by rw[H.out];simp[iZ]),hid (by have E:=K.out;simpa[iZ] using E),D⟩
   case round=>
    obtain⟨k,A',c',m,hk,rfl,rfl,bo,H,K,D⟩:=hrel;by_cases ae:k<L.length
    ·have j1:(0:Int)<=(k:Int):=by omega
     have j2:(k:Int)<(L.length:Int):=by omega
     obtain⟨rb,ro,rfl,aM,Z⟩:=HR.out.range ae;have aN:iZ (L.take (k+1)) ⟨⟨⟨d,f⟩,g⟩,⟨⟨l,s⟩,u⟩,z,C⟩=iZ (L.take k) ⟨⟨⟨d,f⟩,g⟩,⟨⟨l,s⟩,u⟩,z,C⟩++opsM ⟨⟨⟨d,f⟩,g⟩,⟨⟨l,s⟩,u⟩,z,C⟩ (L.getD k gp0).1.ops:=by rw[dF ae gp0];simp[iZ]
     have a8:=(HG.out _ (bL ae gp0)).ops;have aO:=a7.out _ (bL ae gp0);generalize iZ (L.take k) ⟨⟨⟨d,f⟩,g⟩,⟨⟨l,s⟩,u⟩,z,C⟩=N at *;generalize L.getD k gp0=p at *;obtain⟨⟨⟨t,r⟩,n,dv,⟨ut,ur⟩,ops⟩,⟨dA,dc,oA,oc⟩⟩:=p;obtain⟨X,aP,a9⟩:=a8;have aO:ops.length<=100:=aO;have ap:=hid (λW (hB:Below w.heap.size w W)=>show W.rangeAt rb (ro+k*7) [.int .i64 t,.int .i64 r,.int .i64 n,.slice dA dv.length dc,.int .i64 ut,.int .i64 ur,.slice oA ops.length oc] from cd Z aM hB);have ba:=hid aP;have aQ:=hid (show iZ (L.take (k+1)) ⟨⟨⟨d,f⟩,g⟩,⟨⟨l,s⟩,u⟩,z,C⟩=N++opsM ⟨⟨⟨d,f⟩,g⟩,⟨⟨l,s⟩,u⟩,z,C⟩ ops from aN);clear Z aM aN aP a9;generalize wr=w1 at *;go_upto_region 9 with fail;go_loopw [5,8] (λo i wr=>∃(j:Nat) (A':Option Addr) (c' m:Nat),j<=ops.length∧i= .int .i64 j∧o= .slice A' m c'∧m<=B*10000+k*100+j∧Hid (m=(N0++N++opsM ⟨⟨⟨d,f⟩,g⟩,⟨⟨l,s⟩,u⟩,z,C⟩ (ops.take j)).length)∧Hid (wr.ownsRow w.heap.size 161 8 (.slice A' m c') m ((N0++N++opsM ⟨⟨⟨d,f⟩,g⟩,⟨⟨l,s⟩,u⟩,z,C⟩ (ops.take j)).flatMap plcL))∧Hid (Below w.heap.size w wr)) (λo i _=>ops.length-(RowKit.intOf i).toNat)
     case atStart=>exact⟨0,A',c',m,aq _,rfl,rfl,by omega,hid (by rw[H.out];simp[opsM]),hid (by have E:=K.out;simpa[opsM] using E),D⟩
     case round=>
      obtain⟨j,A',c',m,hj,rfl,rfl,bp,H,K,D⟩:=hrel;have bb:=hid (ap.out wr D.out);have ad:=D.out.size;have g6:wr.cell? ⟨rb,ro+k*7+6,none⟩=some (.slice oA ops.length oc):=bb.out 6 _ rfl;by_cases aR:j<ops.length
      ·have l1:(0:Int)<=(j:Int):=by omega
       have l2:(j:Int)<(ops.length:Int):=by omega
       obtain⟨U,Y,rfl,-,aS,aT⟩:=ba.out j aR;have aU:=jw aT;have au:=opsM_succ ⟨⟨⟨d,f⟩,g⟩,⟨⟨l,s⟩,u⟩,z,C⟩ aR;generalize ops.getD j (opO 0 .zero)=o at *;generalize X j=x at *;obtain⟨kd,⟨⟨nt,nr⟩,ni⟩,⟨⟨pt,pr⟩,pi⟩,nm,J,a1,⟨⟨bc,ar⟩,ai⟩,⟨⟨et,er⟩,ei⟩,tx,aE⟩:=o;obtain⟨sA,sc,eA,ec⟩:=x;have av:=hid (λW (hB:Below w.heap.size w W)=>show W.rangeAt U (Y+j*18) [.int .i64 kd,.int .i64 nt,.int .i64 nr,.int .i64 ni,.int .i64 pt,.int .i64 pr,.int .i64 pi,.string nm,.bool J,.slice sA a1.length sc,.int .i64 bc,.int .i64 ar,.int .i64 ai,.int .i64 et,.int .i64 er,.int .i64 ei,.string tx,.slice eA aE.length ec] from cd aU aS hB);obtain⟨b1,aw⟩:∃b,b=decide (kd=0):=⟨_,rfl⟩;obtain⟨b2,ax⟩:∃b,b=Gid.eqb ⟨⟨nt,nr⟩,ni⟩ ⟨⟨d,f⟩,g⟩:=⟨_,rfl⟩;have q1:(kd == 0)=b1:=by rw[aw];rfl
       have q2:=eJ nt nr ni d f g b2 ax.symm;have O:=hid (show opsM ⟨⟨⟨d,f⟩,g⟩,⟨⟨l,s⟩,u⟩,z,C⟩ (ops.take (j+1))=opsM ⟨⟨⟨d,f⟩,g⟩,⟨⟨l,s⟩,u⟩,z,C⟩ (ops.take j)++(if (b1 && b2)=true then [(⟨⟨⟨d,f⟩,g⟩,⟨⟨l,s⟩,u⟩,z,J⟩:Plc)] else []) by rw[au,aw,ax]);have Q:=hid (av.out wr D.out);have ay:=hid (aL.out wr D.out);have y6:=aj g6;have z0:=aj (w:=wr) (a:=⟨U,Y+j*18,none⟩) (v:= .int .i64 kd) (Q.out 0 _ rfl);have z1:=aj (w:=wr) (a:=⟨U,Y+j*18+1,none⟩) (v:= .int .i64 nt) (Q.out 1 _ rfl);have z2:=aj (w:=wr) (a:=⟨U,Y+j*18+2,none⟩) (v:= .int .i64 nr) (Q.out 2 _ rfl);have bd:=aj (w:=wr) (a:=⟨U,Y+j*18+1+1,none⟩) (v:= .int .i64 nr) (Q.out 2 _ rfl);have z3:=aj (w:=wr) (a:=⟨U,Y+j*18+3,none⟩) (v:= .int .i64 ni) (Q.out 3 _ rfl);have be:=aj (w:=wr) (a:=⟨U,Y+j*18+1+2,none⟩) (v:= .int .i64 ni) (Q.out 3 _ rfl);have p0:=aj (w:=wr) (a:=⟨pb,po+B*8,none⟩) (v:= .int .i64 d) (ay.out 0 _ rfl);have p1:=aj (w:=wr) (a:=⟨pb,po+B*8+1,none⟩) (v:= .int .i64 f) (ay.out 1 _ rfl);have p2:=aj (w:=wr) (a:=⟨pb,po+B*8+2,none⟩) (v:= .int .i64 g) (ay.out 2 _ rfl);clear aU aS aT au aw ax;cases b1 with
       |false=>
        go_upto_region 11 with fail;refine rqb ?_
        repeat(any_goals(first|go_big_quiet_step (fail)|quiet_step (fail)))
        refine qz λG I=> ?_;have R:=kO K I;have F:=hid (D.out.trans (I.mono ad));go_wp2;go_roundw
        case rel=>exact⟨j+1,A',c',m,by omega,by go_num,rfl,by omega,hid (by rw[O.out];simpa using H.out),hid (by rw[O.out];simpa using R.out),F⟩
        case measure=>(simp[RowKit.intOf];omega)
       | true=>
        cases b2 with
        |false=>
         go_upto_region 11 with fail;refine rqb ?_
         repeat(any_goals(first|go_big_quiet_step (fail)|quiet_step (fail)))
         refine qz λG I=> ?_;have R:=kO K I;have F:=hid (D.out.trans (I.mono ad));go_wp2;go_roundw
         case rel=>exact⟨j+1,A',c',m,by omega,by go_num,rfl,by omega,hid (by rw[O.out];simpa using H.out),hid (by rw[O.out];simpa using R.out),F⟩
         case measure=>(simp[RowKit.intOf];omega)
        | true=>
         go_upto_region 11 with fail;refine rqb ?_
         repeat(any_goals(first|go_big_quiet_step (fail)|quiet_step (fail)))
         refine qz λG I=> ?_;have R:=kO K I;have F:=hid (D.out.trans (I.mono ad));have bf:=hid (aL.out G F.out);have bq:=hid (av.out G F.out);have br:=hid (ap.out G F.out);have az:=F.out.size;clear y6 z0 z1 z2 bd z3 be p0 p1 p2 g6
         go_upto_region 13 with(first
          |(refine lM bf ca ?_)
          |(refine bM rfl _ _ _ rfl _ _ _ _ rfl ?_ rfl ?_ ?_ ?_ ?_;(focus(simp;done));kernel_rfl;rfl;rfl))
         have af:=F.out.alloc az (.cells #[d,f,g,l,s,u,z,C] 161);have aV:Below G.heap.size G (G.alloc (.cells #[d,f,g,l,s,u,z,C] 161)):=(ag _ _).alloc (aa _) _;have aA:=hid (am G (.cells #[d,f,g,l,s,u,z,C] 161));generalize hW:G.alloc (.cells #[d,f,g,l,s,u,z,C] 161)=W at *;have aX:=hid af;have bg:=kO R aV;have aB:=av.out W af;have aC:=ap.out W af;have c6:W.cell? ⟨rb,ro+k*7+6,none⟩=some (.slice (some ⟨U,Y,none⟩) ops.length oc):=aC 6 _ rfl;have c8:W.cell? ⟨U,Y+j*18+8,none⟩=some (.bool J):=aB 8 _ rfl;have c7:=cw7 aA.out;have f7:W.frozen? ⟨G.heap.size,7,none⟩=false:=aW _ _ _ _ _ aA.out;have aY:∀b,(Value.slice A' m c').ownBlock=some b->b≠G.heap.size:=λb e=>by have:=(R.out.lt b e).2;omega
         have bh:=hid (show(Value.slice A' m c').ownBlock≠some G.heap.size from λe=>aY _ e rfl);clear hW af aV aB aC aY;go_upto_region 14 with fail;obtain⟨V1,ab⟩:∃V,V=W.setCell ⟨G.heap.size,7,none⟩ (.bool J):=⟨_,rfl⟩;have bi:=hid (show V1.heap[G.heap.size]? =some (.cells #[d,f,g,l,s,u,z,J] 161 (0,0)) by rw[ab];exact gI (c:=#[.int .i64 d,.int .i64 f,.int .i64 g,.int .i64 l,.int .i64 s,.int .i64 u,.string z,.bool C]) aA.out 7 (.bool J) rfl);have aZ:=hid (show V1.ownsRow w.heap.size 161 8 (.slice A' m c') m ((N0++N++opsM ⟨⟨⟨d,f⟩,g⟩,⟨⟨l,s⟩,u⟩,z,C⟩ (ops.take j)).flatMap plcL) by rw[ab];exact gJ bg.out bh.out 7 (.bool J));have a0:=hid (show Below w.heap.size w V1 by rw[ab];exact aX.out.grown (eF G.heap.size 7 (.bool J)) aX.out.size (λb e=>by cases e;exact az));have a2:=a0.out.size;rw[<-ab];clear ab c6 c7 c8 f7
         go_wp2_with (first
          |(refine lA bi ca ?_)
          |(at_builtin;refine bX _ rfl _ _ 101 rfl w.heap.size 161 i0 (.agg #[(0:Int),(0:Int),(0:Int),(0:Int),(0:Int),(0:Int),.string ⟨#[]⟩,false]) 8 72 Tryz.underlying101 hi a4 a5 a6 rfl (by decide) (.slice A' m c') m _ rfl (by exact aZ.out.alloc _) ⟨V1.heap.size,0,none⟩ 1 1 [.int .i64 d,.int .i64 f,.int .i64 g,.int .i64 l,.int .i64 s,.int .i64 u,.string z,.bool J] rfl rfl (λj y h=>dH V1 [.int .i64 d,.int .i64 f,.int .i64 g,.int .i64 l,.int .i64 s,.int .i64 u,.string z,.bool J] 161 j y h) (fw (c:=#[.int .i64 d,.int .i64 f,.int .i64 g,.int .i64 l,.int .i64 s,.int .i64 u,.string z,.bool J]) rfl) (by decide) (by unfold maxLen;omega) (by omega) (by simp;omega) (V1.heap.size+1) (by simp) ?_;intro gq bj w5 aD ah ha a3;have bk:=hid aD;have bl:=hid ((a0.out.alloc a2 _).grown ah (by simp;omega) (λb hb=>(aZ.out.lt b hb).1));clear aD ah ha a3))
         go_roundw
         case rel=>exact⟨j+1,some ⟨gq,0,none⟩,bj,m+1,by omega,by go_num,rfl,by omega,hid (by rw[O.out,aJ (show(true && true)=true from rfl),<-aG,al,<-H.out];rfl),hid (by rw[O.out,aJ (show(true && true)=true from rfl),<-aG,aI];exact bk.out),bl⟩
         case measure=>(simp[RowKit.intOf];omega)
      ·obtain rfl:j=ops.length:=by omega
       have l2:¬(ops.length:Int)<(ops.length:Int):=by omega
       have T:=hid (show m=(N0++iZ (L.take (k+1)) ⟨⟨⟨d,f⟩,g⟩,⟨⟨l,s⟩,u⟩,z,C⟩).length by rw[aQ.out,<-aG];have E:=H.out;rw[aK] at E;exact E);have ac:=hid (show wr.ownsRow w.heap.size 161 8 (.slice A' m c') m ((N0++iZ (L.take (k+1)) ⟨⟨⟨d,f⟩,g⟩,⟨⟨l,s⟩,u⟩,z,C⟩).flatMap plcL) by rw[aQ.out,<-aG];have E:=K.out;rw[aK] at E;exact E);go_wp2;go_roundw
       case rel=>exact⟨k+1,A',c',m,by omega,by go_num,rfl,by omega,T,ac,D⟩
       case measure=>(simp[RowKit.intOf];omega)
    ·obtain rfl:k=L.length:=by omega
     have j2:¬(L.length:Int)<(L.length:Int):=by omega
     have T:=hid (show m=(gV L (P.take (B+1))).length by rw[ao.out];have E:=H.out;rw[aK] at E;exact E);have ac:=hid (show wr.ownsRow w.heap.size 161 8 (.slice A' m c') m ((gV L (P.take (B+1))).flatMap plcL) by rw[ao.out];have E:=K.out;rw[aK] at E;exact E);go_wp2;go_roundw
     case rel=>exact⟨B+1,A',c',m,by omega,by go_num,rfl,by omega,T,ac,D⟩
     case measure=>(simp[RowKit.intOf];omega)
  ·obtain rfl:B=P.length:=by omega
   have i2:¬(P.length:Int)<(P.length:Int):=by omega
   have T:=hid (show m=(gV L P).length by have E:=H.out;rw[aK] at E;exact E);have ac:=hid (show wr.ownsRow w.heap.size 161 8 (.slice A' m c') m ((gV L P).flatMap plcL) by have E:=K.out;rw[aK] at E;exact E);go_wp2;go_ret;refine⟨A',c',by rw[<-T.out];rfl,?_,D.out⟩;rw[<-T.out];exact ac.out
def cntD (t:ByteArray):Nat:=(cnt t.data.toList).getD 0
theorem cnt_le:∀(n:Nat) (l:List UInt8),l.length<=n->∀m,cnt l=some m->m<=l.length
 |n,[],_,m,h=>by rw[cnt_nil] at h;cases h;exact aa _
 |0,a::l,hl,m,h=>by simp at hl
 | n+1,a::l,hl,m,h=>by
  have hne:a::l≠[]:=by simp
  rw[cnt_step hne] at h
  cases hr:rfL (a::l) with
  |none=>rw[hr] at h;cases h
  | some p=>
   obtain⟨c,k⟩:=p
   rw[hr] at h
   simp only at h
   have hk:=je hne hr
   have hd:((a::l).drop k).length=(a::l).length-k:=bI ..
   cases hc:cnt ((a::l).drop k) with
   |none=>rw[hc] at h;cases h
   |some q=>
    rw[hc] at h
    have h2:=cnt_le n ((a::l).drop k) (by omega) q hc
    have h3:q+1=m:=by injection h
    omega
theorem cntD_le (t:ByteArray):cntD t<=t.size:=by
 unfold cntD;cases h:cnt t.data.toList with
 |none=>exact aq _
 |some m=>
  have:=cnt_le _ _ (aa _) m h;simpa using this
def ik (r:Rn):List Gid:=(List.range (cntD r.tx)).map λ(k:Nat)=>⟨r.el.s,r.el.i+(k:Int)⟩
def ew (N:List Gid) (x:Gid):List Gid:=if N.any (λy=>y.eqb x)=true then N else N++[x]
def gN (L:List Rn):List Gid:=L.foldl (λN r=>(ik r).foldl ew N) []
theorem names_len (r:Rn):(ik r).length=cntD r.tx:=by unfold ik;simp
theorem names_at (r:Rn) {k:Nat} (h:k<cntD r.tx) (z:Gid):(ik r).getD k z=⟨r.el.s,r.el.i+(k:Int)⟩:=by
 unfold ik;rw[ae,cT,iU h];rfl
theorem any_map (M:List Elt) (x:Gid):(M.map (·.id)).any (λy=>y.eqb x)=M.any (λy:Elt=>Gid.eqb y.id x):=by
 rw[List.any_map];rfl
theorem RowF.one {α:Type} {w:World} {B s:Nat} {A:Option Addr} {f:α->List Value} {z:α} {L:List α} (h:RowF w (λb=>B<=b) A s f z L):∃pb,RowF w (λb=>b=pb) A s f z L∧B<=pb∧(0<L.length->pb<w.heap.size):=by
 by_cases c:0<L.length
 ·obtain⟨b,o,e,j,d,n⟩:=h 0 c;refine⟨b,λk a=> ?_,j,λ_=>d⟩;obtain⟨p,q,g,l,m,i⟩:=h k a;rw[e] at g;cases g;exact⟨b,o,e,rfl,d,i⟩
 ·exact⟨B,λk a=>absurd a (by omega),aa _,λh=>absurd h c⟩
theorem dR (w:World) (g:Nat) (c:Array Value):w.grownBy (w.setRow g c) (some g):=
 ⟨rfl,rfl,rfl,by simp[World.setRow],λk _ hk=>setRow_other _ _ _ _ (λe=>hk (by rw[e]))⟩
theorem range_block {w w':World} {b o:Nat} {cs:List Value} (h:w.rangeAt b o cs) (hb:w'.heap[b]? =w.heap[b]?):w'.rangeAt b o cs:=λj v hv=>(aS (w:=w) (w':=w') (a:=⟨b,o+j,none⟩) hb).trans (h j v hv)
theorem there_of {w:World} {g:Nat} {T:TypeId} {c:Array Value} (h:w.heap[g]? =some (.cells c T (0,0))):w.there g 0 c.size:=λj hj=>by
 refine⟨?_,aW _ _ _ _ _ h⟩
 rw[crw h,bN,dh hj];rfl
theorem split6_all (t:ByteArray) (w:World) (hs:t.size≤1000000):Calls Tryz.prog 193 #[.string t] w fun e w'=>∃A c ps z,e= .returned (.tuple #[.slice A (cntD t) c,.int .i64 z])∧cntD t=List.length ps∧RowF w' (fun b=>w.heap.size≤b) A 1 strL ⟨#[]⟩ ps∧Below w.heap.size w w':=by
 refine(split6_row t w hs).mono ?_
 intro e w' h
 unfold cntD
 cases a:cnt t.data.toList with
 |none=>rw[a] at h;exact⟨none,0,[],60,h.1,rfl,RowF.nil,h.2⟩
 |some m=>
  rw[a] at h
  obtain⟨A,c,ps,d,f,g,i⟩:=h
  exact⟨A,c,ps,0,f,d,ct (fun _=>rfl) d g,i⟩
theorem elements9_any (L:List Rn) (A:Option Addr) (c:Nat) (S:Nat->Prop) (w:World) (hl:L.length<=10000) (hh:∀p∈L,p.tx.size<=1000∧0<p.el.s.t∧0<=p.el.i∧p.el.i<=1000000) (hR:RowF w S A 7 rnL rn0 L):
  Calls Tryz.prog 183 #[.slice A L.length c] w λe w'=>∃A' c' m,∃M:List Elt,e= .returned (.slice A' m c')∧m=M.length∧M.map (·.id)=gN L∧m<=L.length*1000∧w'.ownsRow w.heap.size 169 7 (.slice A' m c') m (M.flatMap eltL)∧Below w.heap.size w w':=by
 obtain⟨i0,hi,b6,b7,b8⟩:=bD info_elt;have HR:=hid hR;have HH:=hid hh;clear hR hh;go_enter Tryz.func183,Tryz.ntmps183;go_upto_region 3 with fail;go_loopw [3,4] (λo i wr=>∃(k:Nat) (A':Option Addr) (c' m:Nat) (M:List Elt),k<=L.length∧i= .int .i64 k∧o= .slice A' m c'∧m<=k*1000∧Hid (m=M.length)∧Hid (M.map (·.id)=gN (L.take k))∧Hid (wr.ownsRow w.heap.size 169 7 (.slice A' m c') m (M.flatMap eltL))∧Hid (Below w.heap.size w wr)) (λo i _=>L.length-(RowKit.intOf i).toNat)
 case atStart=>exact⟨0,none,0,0,[],aq _,rfl,rfl,aq _,hid rfl,hid rfl,hid (aF w w.heap.size 169 7),hid (ag _ _)⟩
 case round=>
  obtain⟨k,A',c',m,M,hk,rfl,rfl,bl,P,HM,HO,H⟩:=hrel;by_cases aQ:k<L.length
  ·have i1:(0:Int)<=(k:Int):=by omega
   have i2:(k:Int)<(L.length:Int):=by omega
   obtain⟨T,U,rfl,-,bm,ap⟩:=HR.out.range (λ_=>rfl) aQ;have bn:gN (L.take (k+1))=(ik (L.getD k rn0)).foldl ew (gN (L.take k)):=eL _ _ aQ rn0;have bo:=HH.out _ (bL aQ rn0);generalize gN (L.take k)=N at *;generalize L.getD k rn0=p at *;obtain⟨⟨⟨D,X⟩,Y⟩,⟨⟨l,n⟩,d⟩,tx⟩:=p;obtain⟨cB,cC,cD,cx⟩:=(show tx.size<=1000∧0<l∧0<=d∧d<=1000000 from bo);have au:=hid (λW (hB:Below w.heap.size w W)=>show W.rangeAt T (U+k*7) [.int .i64 D,.int .i64 X,.int .i64 Y,.int .i64 l,.int .i64 n,.int .i64 d,.string tx] from cd ap bm hB);have b9:=hid bn;have aS:=H.out.size;have cE:=cntD_le tx;have bp:=hid (split6_all tx wr (by omega));have aU:=hid HO.out.lt;have g6:wr.cell? ⟨T,U+k*7+6,none⟩=some (.string tx):=au.out wr H.out 6 _ rfl;clear ap bm bn bo;generalize wr=w0 at *;go_upto_region 6 with(go_at_call 193;refine bp.out.mono ?_;rintro e w1 ⟨pA,pc,ps,z,rfl,br,bs,bt⟩;have bu:=hid bs;have ay:=hid bt;have ca:=hid br;clear bs bt br);obtain⟨I,bw,b1,aV⟩:=bu.out.one;have an:=hid (H.out.trans (ay.out.mono aS));have cc:=ay.out.size;have bx:=hid (show w1.rangeAt T (U+k*7) [.int .i64 D,.int .i64 X,.int .i64 Y] from bv (pre:=[]) (mid:=[.int .i64 D,.int .i64 X,.int .i64 Y]) (post:=[.int .i64 l,.int .i64 n,.int .i64 d,.string tx]) (au.out w1 an.out));have bA:=kO HO ay.out
   have aW:=hid (show(Value.slice A' m c').ownBlock≠some I from λe=>by have:=(aU.out I e).2;omega);have aX:=hid (show(Value.slice A' m c').ownBlock≠some w1.heap.size from λe=>by have:=(aU.out _ e).2;omega);have b3:=hid (show 0<ps.length->I<w1.heap.size from aV);have bB:=hid bw;clear g6 bw b1 aV
   go_upto_region 7 with(first
    |(refine lM bx aw ?_)
    |(refine bM rfl _ _ _ rfl _ _ _ _ rfl ?_ rfl ?_ ?_ ?_ ?_;(focus(simp;done));kernel_rfl;rfl;rfl))
   have az:Below w1.heap.size w1 (w1.alloc (.cells #[D,X,Y] 108)):=(ag _ _).alloc (aa _) _;have bE:=hid (am w1 (.cells #[D,X,Y] 108));have bF:=bT an az;have bG:=kO bA az;have bH:=hid (bB.out.below az);have bI:=hid (show w.heap.size<=w1.heap.size from an.out.size);generalize hW:w1.alloc (.cells #[D,X,Y] 108)=W at *;generalize ce:w1.heap.size=G at *;clear hW ce az bp bu ay an bA HO H bB bx aU cc aS;go_upto_region 8 with fail;go_loopw [3,8] (λo i wr=>∃(q:Nat) (A':Option Addr) (c' m:Nat) (M:List Elt) (x B C:Int),q<=cntD tx∧i= .int .i64 q∧o= .slice A' m c'∧m<=k*1000+q∧Hid (m=M.length)∧Hid (M.map (·.id)=((ik (⟨⟨⟨D,X⟩,Y⟩,⟨⟨l,n⟩,d⟩,tx⟩:Rn)).take q).foldl ew N)∧Hid (wr.ownsRow w.heap.size 169 7 (.slice A' m c') m (M.flatMap eltL))∧Hid (Below w.heap.size w wr)∧Hid (wr.heap[G]? =some (.cells #[x,B,C] 108 (0,0)))∧Hid (RowF wr (λb=>b=I) pA 1 strL ⟨#[]⟩ ps)∧Hid ((Value.slice A' m c').ownBlock≠some I)∧Hid ((Value.slice A' m c').ownBlock≠some G)) (λo i _=>cntD tx-(RowKit.intOf i).toNat)
   case atStart=>exact⟨0,A',c',m,M,D,X,Y,aq _,rfl,rfl,by omega,P,hid (by rw[HM.out];rfl),bG,bF,bE,bH,aW,aX⟩
   case round=>
    clear P HM bG bF bE bH aW aX bl;obtain⟨q,A',c',m,M,x,B,C,hj,rfl,rfl,cF,P,HM,HO,H,HA,HP,aA,aD⟩:=hrel;by_cases aY:q<cntD tx
    ·have j1:(0:Int)<=(q:Int):=by omega
     have j2:(q:Int)<(cntD tx:Int):=by omega
     have cf:q<ps.length:=by rw[<-ca.out];exact aY
     obtain⟨ch,po,bJ,bN,aE,aZ⟩:=HP.out.range (λ_=>rfl) cf;rw[show ch=I from bN] at bJ aE aZ;obtain rfl:=bJ;have bO:=hid (b3.out (by omega));have a0:(((ik ⟨⟨⟨D,X⟩,Y⟩,⟨⟨l,n⟩,d⟩,tx⟩).take (q+1)).foldl ew N)=ew (M.map (·.id)) ⟨⟨l,n⟩,d+(q:Int)⟩:=by rw[eL _ _ (by rw[names_len];exact aY) Gid.zero,names_at _ aY,HM.out]
     generalize ps.getD q ⟨#[]⟩=E at *;have a1:=hid a0;have a2:=hid (show wr.rangeAt I (po+q*1) [.string E] from aZ);have q0:=eJ l n (d+(q:Int)) 0 0 0 false (by rw[<-Bool.not_eq_true,Gid.eqb_iff];intro e;injection e with e1 e2;injection e1 with e3 e4;omega);have k6:IntKind.i64.wrap (d+(q:Int))=(d+(q:Int)):=by rw[bz];omega
     have a3:=H.out.size;have r:=hid (au.out wr H.out);have bP:=hid ((H.out.alloc a3 (.cells #[(0:Int),(0:Int),(0:Int)] 108)).drew);have aG:=hid (show(wr.alloc (.cells #[(0:Int),(0:Int),(0:Int)] 108)).drew.heap[wr.heap.size]? =some (.cells #[(0:Int),(0:Int),(0:Int)] 108 (0,0)) from am wr (.cells #[(0:Int),(0:Int),(0:Int)] 108));have bQ:=hid (show(wr.alloc (.cells #[(0:Int),(0:Int),(0:Int)] 108)).drew.there wr.heap.size 0 3 from there_of aG.out);have ci:=hid (show(#[.int .i64 l,.int .i64 n,.int .i64 (d+(q:Int))]:Array Value).all (·.oneCell')=true by rw[<-cg];rfl);have a4:=hid (show(#[.int .i64 l,.int .i64 n,.int .i64 (d+(q:Int))]:Array Value).toList.all (·.oneCell')=true from rfl);obtain⟨wv,hV⟩:∃V,V=(wr.alloc (.cells #[(0:Int),(0:Int),(0:Int)] 108)).drew.setCells wr.heap.size 0 (#[.int .i64 l,.int .i64 n,.int .i64 (d+(q:Int))]:Array Value).toList:=⟨_,rfl⟩;have a5:wv=(wr.alloc (.cells #[(0:Int),(0:Int),(0:Int)] 108)).drew.setRow wr.heap.size #[.int .i64 l,.int .i64 n,.int .i64 (d+(q:Int))]:=by rw[hV];exact fk _ _ _ _ _ _ aG.out
     have R:=hid (show Below wr.heap.size wr wv by rw[a5];exact Below.setRow' (((ag _ _).alloc (aa _) _).drew) (aa _) _);have HX:=hid (show wv.heap[wr.heap.size]? =some (.cells #[l,n,.int .i64 (d+(q:Int))] 108 (0,0)) by rw[a5];exact aM _ aG.out);have bR:=hid (H.out.trans (R.out.mono a3));have HV:=hid hV;have cj:=kO HO R.out;have bS:=hid (HP.out.below R.out);have bU:=bK R.out HA;have ck:=hid (cd a2.out aE R.out);have a6:=hid (bC aE R.out.size);have cl:=hid (show(Value.slice A' m c').ownBlock≠some wr.heap.size from λe=>by have:=(HO.out.lt _ e).2;omega);clear a0 aZ hV a5 bN;go_upto_region 10 with fail;refine aR (S:=λW'=>W'.rangeAt T (U+k*7) [.int .i64 D,.int .i64 X,.int .i64 Y,.int .i64 l,.int .i64 n,.int .i64 d,.string tx]) (by kernel_rfl) ?_
     try(change wpAnyH _ _ _ _ _ _ _ _ (World.drew _))
     refine tk 0 (.slice (some ⟨T,U,none⟩) L.length c) (r.out) ?_;go_simp;refine tk 1 (.int .i64 (k:Int)) (r.out) ?_;go_simp;refine tk 2 (.pointer (some ⟨T,U+k*7,none⟩)) (r.out) ?_;go_simp;refine tk 3 (.pointer (some ⟨T,U+k*7+3,none⟩)) (r.out) ?_;go_simp;refine tk 4 (.pointer (some ⟨T,U+k*7+3,none⟩)) (r.out) ?_;go_simp;refine tk2 5 (.agg #[l,n]) rfl (aT (by rfl) _ _ rfl T (U+k*7+3) rfl [.int .i64 l,.int .i64 n] _ (λW' Z=>bv (pre:=[.int .i64 D,.int .i64 X,.int .i64 Y]) (mid:=[.int .i64 l,.int .i64 n]) (post:=[.int .i64 d,.string tx]) (Z)) cb rfl (by kernel_rfl)) (r.out) ?_;go_simp;refine tk 6 (.slice (some ⟨T,U,none⟩) L.length c) (r.out) ?_;go_simp;refine tk 7 (.int .i64 (k:Int)) (r.out) ?_;go_simp;refine tk 8 (.pointer (some ⟨T,U+k*7,none⟩)) (r.out) ?_;go_simp;refine tk 9 (.pointer (some ⟨T,U+k*7+3,none⟩)) (r.out) ?_;go_simp;refine tk 10 (.pointer (some ⟨T,U+k*7+3+2,none⟩)) (r.out) ?_;go_simp;refine tk2 11 (.int .i64 d) rfl (Or.inl ⟨by rfl,λW' Z=>by(have c_:W'.cell? ⟨T,U+k*7+3+2,none⟩=some (.int .i64 d):=Z 5 _ rfl;go_simp)⟩) (r.out) ?_;go_simp;refine tk 12 (.int .i64 (q:Int)) (r.out) ?_;go_simp;refine tk 13 (.int .i64 (d+(q:Int))) (r.out) ?_;go_simp;refine tk 14 (.agg #[l,n,.int .i64 (d+(q:Int))]) (r.out) ?_;go_simp;refine rd1 15 λK hK=> ?_;go_simp;refine hK.out _ _ (au.out _ bP.out) (λ_=> ?_);clear hK K;refine rd1 16 λK hK=> ?_
     refine cy rfl _ _ _ rfl wr.heap.size 0 #[.int .i64 l,.int .i64 n,.int .i64 (d+(q:Int))] (by rfl) (by rfl) bQ.out (by kernel_rfl) ci.out ?_;rw[<-HV.out];refine hK.out _ _ (au.out _ bR.out) (λ_=> ?_);clear hK K;refine be (by kernel_rfl) ?_ _;go_simp;generalize cm:wr.heap.size=xB at *;clear cm aG bQ bP R a2 r HO H HP HA HV aE;go_upto_region 13 with(refine lA HX aw ?_);go_loopw [10,11] (λh i wr=>∃(j:Nat) (b:Bool),j<=m∧i= .int .i64 j∧h= .bool b∧Hid (b=(M.take j).any (λy:Elt=>Gid.eqb y.id ⟨⟨l,n⟩,d+(q:Int)⟩))∧Hid (Below wv.heap.size wv wr)) (λh i _=>m-(RowKit.intOf i).toNat)
     case atStart=>exact⟨0,false,aq _,rfl,rfl,hid rfl,hid (ag _ _)⟩
     case round=>
      obtain⟨j,b,hj,rfl,rfl,HB,F⟩:=hrel;have ah:=bT bR F.out;have aH:=kO cj F.out;by_cases bV:j<m
      ·have j1:(0:Int)<=(j:Int):=by omega
       have j2:(j:Int)<(m:Int):=by omega
       obtain⟨g2,rfl,-,cG,aL⟩:=cz (f:=eltL) (λ_=>rfl) P.out aH.out bV elt0;have bW:(M.take (j+1)).any (λy:Elt=>Gid.eqb y.id ⟨⟨l,n⟩,d+(q:Int)⟩)=((M.take j).any (λy:Elt=>Gid.eqb y.id ⟨⟨l,n⟩,d+(q:Int)⟩) || (λy:Elt=>Gid.eqb y.id ⟨⟨l,n⟩,d+(q:Int)⟩) (M.getD j elt0)):=by rw[dF (by rw[<-P.out];exact bV) elt0,jp];simp
       generalize M.getD j elt0=y at *;obtain⟨⟨⟨t2,r2⟩,n2⟩,⟨⟨u2,v2⟩,i2⟩,p2⟩:=y;obtain⟨b2,a7⟩:∃b,b=(λy:Elt=>Gid.eqb y.id ⟨⟨l,n⟩,d+(q:Int)⟩) ⟨⟨⟨t2,r2⟩,n2⟩,⟨⟨u2,v2⟩,i2⟩,p2⟩:=⟨_,rfl⟩;have q1:=eJ t2 r2 n2 l n (d+(q:Int)) b2 a7.symm;have bX:=hid (show(M.take (j+1)).any (λy:Elt=>Gid.eqb y.id ⟨⟨l,n⟩,d+(q:Int)⟩)=(b || b2) by rw[bW,HB.out,a7]);have y0:=aj (w:=wr) (a:=⟨g2,j*7,none⟩) (v:= .int .i64 t2) (aL 0 _ rfl);have y1:=aj (w:=wr) (a:=⟨g2,j*7+1,none⟩) (v:= .int .i64 r2) (aL 1 _ rfl);have y2:=aj (w:=wr) (a:=⟨g2,j*7+2,none⟩) (v:= .int .i64 n2) (aL 2 _ rfl);have aN:=(F.out.block _ (lt_of_block HX.out)).trans HX.out;have x0:=aj (w:=wr) (a:=⟨xB,0,none⟩) (v:= .int .i64 l) (crw aN);have x1:=aj (w:=wr) (a:=⟨xB,1,none⟩) (v:= .int .i64 n) (crw aN);have x2:=aj (w:=wr) (a:=⟨xB,2,none⟩) (v:= .int .i64 (d+(q:Int))) (crw aN);clear aN;clear aL a7 bW;cases b with
       |true=>
        go_upto_region 15 with fail;refine rqb ?_
        repeat(any_goals(first|go_big_quiet_step (fail)|quiet_step (fail)))
        refine qz λwq a8=> ?_;go_wp2;go_roundw
        case rel=>exact⟨j+1,true,by omega,by go_num,rfl,hid (by rw[bX.out];rfl),bT F a8⟩
        case measure=>(simp[RowKit.intOf];omega)
       |false=>
        go_upto_region 15 with fail;refine rqb ?_
        repeat(any_goals(first|go_big_quiet_step (fail)|quiet_step (fail)))
        refine qz λwq a8=> ?_;go_wp2;go_roundw
        case rel=>exact⟨j+1,b2,by omega,by go_num,rfl,hid (by rw[bX.out];rfl),bT F a8⟩
        case measure=>(simp[RowKit.intOf];omega)
      ·obtain rfl:j=m:=by omega
       have j2:¬(j:Int)<(j:Int):=by omega
       have ao:b=M.any (λy:Elt=>Gid.eqb y.id ⟨⟨l,n⟩,d+(q:Int)⟩):=by rw[HB.out,P.out,aK]
       cases b with
       | true=>
        have a9:=hid (show(((ik ⟨⟨⟨D,X⟩,Y⟩,⟨⟨l,n⟩,d⟩,tx⟩).take (q+1)).foldl ew N)=M.map (·.id) by rw[a1.out];unfold ew;rw[any_map,aJ ao.symm]);clear ao;have ae:=bK F.out HX;have ab:=bK F.out bU;have ba:=hid (bS.out.agr (Agr.below F.out));go_upto_region 18 with fail;obtain⟨V3,J⟩:∃V,V=wr.setRow G #[.int .i64 l,.int .i64 n,.int .i64 (d+(q:Int))]:=⟨_,rfl⟩;have bb:=hid J;have bc:=hid (show V3.heap[G]? =some (.cells #[l,n,.int .i64 (d+(q:Int))] 108 (0,0)) by rw[J];exact aM _ ab.out);have bd:=hid (show Below w.heap.size w V3 by rw[J];exact Below.setRow' ah.out bI.out _);have av:=hid (show wr.grownBy V3 (some G) by rw[J];exact dR _ _ _);have bg:=hid (aH.out.kept av.out (.inr aD.out));have bh:=hid (ba.out.agr (Agr.grown av.out (λg e1 e2=>by cases e1;exact absurd (show G=I from e2) (by have:=bO.out;omega))));clear J
        go_wp2_with (first
         |(refine lA ae aw ?_)
         |(refine da rfl _ _ _ rfl G 108 #[.int .i64 x,.int .i64 B,.int .i64 C] #[.int .i64 l,.int .i64 n,.int .i64 (d+(q:Int))] rfl rfl ab.out (by kernel_rfl) rfl a4.out ?_;rw[<-bb.out]))
        go_roundw
        case rel=>exact⟨q+1,A',c',j,M,l,n,(d+(q:Int)),by omega,by go_num,rfl,by omega,P,hid a9.out.symm,bg,bd,bc,bh,aA,aD⟩
        case measure=>(simp[RowKit.intOf];omega)
       | false=>
        have a9:=hid (show(((ik ⟨⟨⟨D,X⟩,Y⟩,⟨⟨l,n⟩,d⟩,tx⟩).take (q+1)).foldl ew N)=(M++[(⟨⟨⟨l,n⟩,d+(q:Int)⟩,⟨⟨x,B⟩,C⟩,E⟩:Elt)]).map (·.id) by rw[a1.out];unfold ew;rw[any_map,aC (by rw[<-ao];decide),bq];rfl);clear ao;have ae:=bK F.out HX;have ab:=bK F.out bU;have ba:=hid (bS.out.agr (Agr.below F.out));have ac:=hid (show wr.rangeAt xB 0 [.int .i64 l,.int .i64 n,.int .i64 (d+(q:Int))] from bf ae.out);have ad:=hid (show wr.rangeAt G 0 [.int .i64 x,.int .i64 B,.int .i64 C] from bf ab.out);have Q:=hid (show wr.rangeAt I (po+q) [.string E] by have h9:=cd ck.out a6.out F.out;rwa[jE] at h9);have aO:=hid (bC a6.out F.out.size);have cA:=ah.out.size;go_upto_region 17 with fail;refine aR (S:=λW'=>W'.rangeAt xB 0 [.int .i64 l,.int .i64 n,.int .i64 (d+(q:Int))]∧W'.rangeAt G 0 [.int .i64 x,.int .i64 B,.int .i64 C]∧W'.rangeAt I (po+q) [.string E]) (by kernel_rfl) ?_
        try(change wpAnyH _ _ _ _ _ _ _ _ (World.drew _))
        refine tk 0 (.slice A' j c') (⟨ac.out,ad.out,Q.out⟩) ?_;go_simp;refine tk2 1 (.agg #[l,n,.int .i64 (d+(q:Int))]) rfl (aT (by rfl) _ _ rfl xB (0) rfl [.int .i64 l,.int .i64 n,.int .i64 (d+(q:Int))] _ (λW' Z=>bv (pre:=[]) (mid:=[.int .i64 l,.int .i64 n,.int .i64 (d+(q:Int))]) (post:=[]) (Z.1)) aw rfl (by kernel_rfl)) (⟨ac.out,ad.out,Q.out⟩) ?_;go_simp;refine tk2 2 (.agg #[x,B,C]) rfl (aT (by rfl) _ _ rfl G (0) rfl [.int .i64 x,.int .i64 B,.int .i64 C] _ (λW' Z=>bv (pre:=[]) (mid:=[.int .i64 x,.int .i64 B,.int .i64 C]) (post:=[]) (Z.2.1)) aw rfl (by kernel_rfl)) (⟨ac.out,ad.out,Q.out⟩) ?_;go_simp;refine tk 3 (.slice (some ⟨I,po,none⟩) (cntD tx) pc) (⟨ac.out,ad.out,Q.out⟩) ?_;go_simp;refine tk 4 (.int .i64 (q:Int)) (⟨ac.out,ad.out,Q.out⟩) ?_;go_simp;refine tk 5 (.pointer (some ⟨I,po+q,none⟩)) (⟨ac.out,ad.out,Q.out⟩) ?_;go_simp;refine tk2 6 (.string E) rfl (Or.inl ⟨by rfl,λW' Z=>by(have c_:W'.cell? ⟨I,po+q,none⟩=some (.string E):=Z.2.2 0 _ rfl;go_simp)⟩) (⟨ac.out,ad.out,Q.out⟩) ?_;go_simp;refine tk 7 (.agg #[l,n,.int .i64 (d+(q:Int)),x,B,C,E]) (⟨ac.out,ad.out,Q.out⟩) ?_;go_simp;have ak:(wr.alloc (.cells #[l,n,.int .i64 (d+(q:Int)),x,B,C,E] 169)).drew.heap.size=wr.heap.size+1:=by show(wr.alloc _).heap.size=_;simp
        have cn:=hid (aH.out.alloc (.cells #[l,n,.int .i64 (d+(q:Int)),x,B,C,E] 169));have co:=hid (λ(i:Nat) (y:Value) (h:([.int .i64 l,.int .i64 n,.int .i64 (d+(q:Int)),.int .i64 x,.int .i64 B,.int .i64 C,.string E]:List Value)[i]? =some y)=>dH wr [.int .i64 l,.int .i64 n,.int .i64 (d+(q:Int)),.int .i64 x,.int .i64 B,.int .i64 C,.string E] 169 i y h);have cp:=hid (show ∀u∈([.int .i64 l,.int .i64 n,.int .i64 (d+(q:Int)),.int .i64 x,.int .i64 B,.int .i64 C,.string E]:List Value),u.oneCell'=true from fw (c:=#[.int .i64 l,.int .i64 n,.int .i64 (d+(q:Int)),.int .i64 x,.int .i64 B,.int .i64 C,.string E]) rfl);have cq:=hid ((ah.out.alloc ah.out.size (.cells #[l,n,.int .i64 (d+(q:Int)),x,B,C,E] 169)).drew);have af:=hid (show Below wr.heap.size wr (wr.alloc (.cells #[l,n,.int .i64 (d+(q:Int)),x,B,C,E] 169)).drew from((ag _ _).alloc (aa _) _).drew);refine rd1 8 λK hK=> ?_;go_simp;refine hK.out _ _ (⟨cd ac.out (lt_of_block ae.out) af.out,cd ad.out (lt_of_block ab.out) af.out,cd Q.out aO.out af.out⟩) (λ_=> ?_);clear hK K;refine rd1 9 λK hK=> ?_
        refine dW _ (by rfl) _ _ 112 (by rfl) w.heap.size 169 i0 (.agg #[(0:Int),(0:Int),(0:Int),(0:Int),(0:Int),(0:Int),.string ⟨#[]⟩]) 7 64 Tryz.underlying112 hi b6 b7 b8 rfl (by decide) (.slice A' j c') j _ (by rfl) (by exact cn.out) ⟨wr.heap.size,0,none⟩ 1 1 [.int .i64 l,.int .i64 n,.int .i64 (d+(q:Int)),.int .i64 x,.int .i64 B,.int .i64 C,.string E] (by rfl) (by rfl) (by exact co.out) cp.out (by decide) (by unfold maxLen;omega) (by omega) (by rw[ak];have:=ah.out.size;omega) (wr.heap.size+1) ak ?_;intro gq ax w5 aP O bi b4;have cr:=hid aP;have cs:=hid (cq.out.grown O (by rw[ak];have:=ah.out.size;omega) (λb hb=>(aH.out.lt b hb).1));have bY:=hid ((O.block xB (by rw[ak];have:=lt_of_block ae.out;omega) (λe=>cl.out e.symm)).trans ((af.out.block _ (lt_of_block ae.out)).trans ae.out));have bj:=hid ((O.block G (by rw[ak];have:=lt_of_block ab.out;omega) (λe=>aD.out e.symm)).trans ((af.out.block _ (lt_of_block ab.out)).trans ab.out));have ct:=hid ((ba.out.below af.out).agr (Agr.grown O (λg e1 e2=>aA.out (e1.trans (congrArg some e2)))));have bZ:=hid (show(Value.slice (some ⟨gq,0,none⟩) (j+1) ax).ownBlock≠some G from λe=>by(injection (show some gq=some G from e) with e;rcases bi with h|h;exact aD.out (by rw[h,e]);have:=lt_of_block ab.out;omega))
        have cu:=hid (show(Value.slice (some ⟨gq,0,none⟩) (j+1) ax).ownBlock≠some I from λe=>by(injection (show some gq=some I from e) with e;rcases bi with h|h;exact aA.out (by rw[h,e]);have:=aO.out;omega));have cv:=(af.out.block _ (lt_of_block ae.out));have b0:=hid (show w5.rangeAt xB 0 [.int .i64 l,.int .i64 n,.int .i64 (d+(q:Int))]∧w5.rangeAt G 0 [.int .i64 x,.int .i64 B,.int .i64 C]∧w5.rangeAt I (po+q) [.string E] from⟨bf bY.out,bf bj.out,range_block (cd Q.out aO.out af.out) (O.block I (by rw[ak];have:=aO.out;omega) (λe=>aA.out e.symm))⟩);clear aP O bi b4 cv;refine hK.out _ _ (b0.out) (λ_=> ?_);clear hK K;refine tk 10 (.slice (some ⟨gq,0,none⟩) (j+1) ax) (b0.out) ?_;go_simp;refine be (by kernel_rfl) ?_ _;go_simp;go_upto_region 18 with fail;have b5:=hid (show j+1=(M++[(⟨⟨⟨l,n⟩,d+(q:Int)⟩,⟨⟨x,B⟩,C⟩,E⟩:Elt)]).length by rw[al,<-P.out];rfl);have cw:=hid (show w5.ownsRow w.heap.size 169 7 (.slice (some ⟨gq,0,none⟩) (j+1) ax) (j+1) ((M++[(⟨⟨⟨l,n⟩,d+(q:Int)⟩,⟨⟨x,B⟩,C⟩,E⟩:Elt)]).flatMap eltL) by rw[aI];exact cr.out);obtain⟨V3,J⟩:∃V,V=w5.setRow G #[.int .i64 l,.int .i64 n,.int .i64 (d+(q:Int))]:=⟨_,rfl⟩;have bb:=hid J;have bc:=hid (show V3.heap[G]? =some (.cells #[l,n,.int .i64 (d+(q:Int))] 108 (0,0)) by rw[J];exact aM _ bj.out)
        have bd:=hid (show Below w.heap.size w V3 by rw[J];exact Below.setRow' cs.out bI.out _);have av:=hid (show w5.grownBy V3 (some G) by rw[J];exact dR _ _ _);have bg:=hid (cw.out.kept av.out (.inr bZ.out));have bh:=hid (ct.out.agr (Agr.grown av.out (λg e1 e2=>by cases e1;exact absurd (show G=I from e2) (by have:=bO.out;omega))));clear J
        go_wp2_with (first
         |(refine lA bY aw ?_)
         |(refine da rfl _ _ _ rfl G 108 #[.int .i64 x,.int .i64 B,.int .i64 C] #[.int .i64 l,.int .i64 n,.int .i64 (d+(q:Int))] rfl rfl bj.out (by kernel_rfl) rfl a4.out ?_;rw[<-bb.out]))
        go_roundw
        case rel=>exact⟨q+1,some ⟨gq,0,none⟩,ax,j+1,M++[(⟨⟨⟨l,n⟩,d+(q:Int)⟩,⟨⟨x,B⟩,C⟩,E⟩:Elt)],l,n,(d+(q:Int)),by omega,by go_num,rfl,by omega,b5,hid a9.out.symm,bg,bd,bc,bh,cu,bZ⟩
        case measure=>(simp[RowKit.intOf];omega)
    ·obtain rfl:q=cntD tx:=by omega
     have j2:¬((cntD tx:Nat):Int)<((cntD tx:Nat):Int):=by omega
     have bk:=hid (show M.map (·.id)=gN (L.take (k+1)) by rw[b9.out];have h9:=HM.out;rw[<-names_len (⟨⟨⟨D,X⟩,Y⟩,⟨⟨l,n⟩,d⟩,tx⟩:Rn),aK] at h9;exact h9);go_wp2;go_roundw
     case rel=>exact⟨k+1,A',c',m,M,by omega,by go_num,rfl,by omega,P,bk,HO,H⟩
     case measure=>(simp[RowKit.intOf];omega)
  ·obtain rfl:k=L.length:=by omega
   have i2:¬(L.length:Int)<(L.length:Int):=by omega
   have bk:=hid (show M.map (·.id)=gN L by have h9:=HM.out;rw[aK] at h9;exact h9);go_wp2;go_ret;exact⟨A',c',m,rfl,M,P.out,bk.out,bl,HO.out,H.out⟩
def sortI (l:List Gid):List Gid:=l.foldl (λout x=>insB (λy:Gid=>x.lt y) Gid.zero out x) []
def stepE (out:List Gid) (e:Elt):List Gid:=insB (λy:Gid=>e.id.lt y) Gid.zero out e.id
theorem stepE_map (N:List Elt):N.foldl stepE []=sortI (N.map (·.id)):=by unfold sortI;rw[List.foldl_map];rfl
theorem foldE_len:∀(l:List Gid) (out:List Gid),(l.foldl (λout x=>insB (λy:Gid=>x.lt y) Gid.zero out x) out).length=out.length+l.length
 | [],out=>rfl
 |x::l,out=>by rw[dU,foldE_len l,j0,bG];omega
theorem sortI_len (l:List Gid):(sortI l).length=l.length:=by unfold sortI;rw[foldE_len];simp
def fP (L:List (Grp×GrX)) (x:Gid):List Gid:=sortI (gN (fK x L))
theorem elements_any (L:List (Grp×GrX)) (A:Option Addr) (c:Nat) (xt xr xi:Int) (S:Nat->Prop) (w00:World) (hl:L.length<=1000) (hlo:∀p∈L,p.1.ops.length<=1000) (hrl:(fK ⟨⟨xt,xr⟩,xi⟩ L).length<=100) (hh:∀p∈fK ⟨⟨xt,xr⟩,xi⟩ L,p.tx.size<=1000∧0<p.el.s.t∧0<=p.el.i∧p.el.i<=1000000) (hR:RowGr w00 A L) (hG:∀p∈L,GrG w00 S p):
  Calls Tryz.prog 146 #[.slice A L.length c,.agg #[xt,xr,xi]] w00 λe w'=>∃A' c',e= .returned (.slice A' (fP L ⟨⟨xt,xr⟩,xi⟩).length c')∧w'.ownsRow w00.heap.size 108 3 (.slice A' (fP L ⟨⟨xt,xr⟩,xi⟩).length c') (fP L ⟨⟨xt,xr⟩,xi⟩).length ((fP L ⟨⟨xt,xr⟩,xi⟩).flatMap idL)∧Below w00.heap.size w00 w':=by
 obtain⟨i0,hi,bb,bc,Y⟩:=bD info_id;have ab:Below w00.heap.size w00 (w00.alloc (.cells #[xt,xr,xi] 108)):=(ag _ _).alloc (aa _) _;have ai:=hid ab;have bd:=hid (am w00 (.cells #[xt,xr,xi] 108));have aN:=hid (runs_any L A c xt xr xi S (w00.alloc (.cells #[xt,xr,xi] 108)) hl hlo (hR.below ab) (λp hp=>(hG p hp).agr (Agr.below ab)));obtain⟨R,ak⟩:∃R,R=fK ⟨⟨xt,xr⟩,xi⟩ L:=⟨_,rfl⟩;obtain⟨Z,al⟩:∃Z,Z=fP L ⟨⟨xt,xr⟩,xi⟩:=⟨_,rfl⟩;have HZ:=hid (show Z=sortI (gN R) by rw[al,ak];rfl);rw[<-al];rw[<-ak] at aN hrl hh;have HH:=hid hh;clear hR hG ab hlo ak al hh;go_enter Tryz.func146,Tryz.ntmps146;go_upto_region 1 with fail;generalize hW:w00.alloc (.cells #[xt,xr,xi] 108)=w0 at *;clear hW
 go_upto_region 4 with(first
  |(refine lA bd aw ?_)
  |(go_at_call 115;refine aN.out.mono ?_;rintro e w1 ⟨A1,c1,rfl,ac,aO⟩;have bf:=hid (elements9_any R A1 c1 _ w1 (by omega) HH.out (ct (z:=rn0) (λ_=>rfl) rfl ac));have an:=hid aO;clear ac aO)
  |(go_at_call 183;refine bf.out.mono ?_;rintro e w ⟨A2,c2,l,N,rfl,aP,aQ,bB,ad,aS⟩;have ao:=hid aP;have bg:=hid aQ;have bh:=hid ad;have ap:=hid aS;clear aP aQ ad aS))
 go_loopw [6,7] (λo i wr=>∃(k:Nat) (A':Option Addr) (c' m:Nat) (M:List Gid),k<=l∧i= .int .i64 k∧o= .slice A' m c'∧m<=k∧Hid (m=M.length)∧Hid (M=(N.take k).foldl stepE [])∧Hid (wr.ownsRow w.heap.size 108 3 (.slice A' m c') m (M.flatMap idL))∧Hid (Below w.heap.size w wr)) (λo i _=>l-(RowKit.intOf i).toNat)
 case atStart=>exact⟨0,none,0,0,[],aq _,rfl,rfl,aa _,hid rfl,hid rfl,hid (aF w w.heap.size 108 3),hid (ag _ _)⟩
 case round=>
  obtain⟨k,A',c',m,M,hk,rfl,rfl,bC,H,HM,HO,Q⟩:=hrel;by_cases aT:k<l
  ·have i1:(0:Int)<=(k:Int):=by omega
   have i2:(k:Int)<(l:Int):=by omega
   obtain⟨rb,rfl,-,aU,T⟩:=cz (f:=eltL) (λ_=>rfl) ao.out bh.out aT elt0;have aV:((N.take (k+1)).foldl stepE [])=stepE M (N.getD k elt0):=by rw[HM.out];exact eL _ _ (by rw[<-ao.out];exact aT) elt0
   generalize N.getD k elt0=p at *;obtain⟨⟨⟨t,r⟩,n⟩,⟨⟨u,v⟩,i⟩,pc⟩:=p;have aW:=hid aV;have bi:=Q.out.size;have bx:m<=100000:=by omega
   have aY:=hid (show wr.rangeAt rb (k*7) [.int .i64 t,.int .i64 r,.int .i64 n] from bv (pre:=[]) (mid:=[.int .i64 t,.int .i64 r,.int .i64 n]) (post:=[.int .i64 u,.int .i64 v,.int .i64 i,.string pc]) (cd T aU Q.out));have aZ:=hid (show((N.take (k+1)).foldl stepE [])=insB (λy:Gid=>Gid.lt ⟨⟨t,r⟩,n⟩ y) Gid.zero M ⟨⟨t,r⟩,n⟩ by rw[aW.out];rfl);clear aV T aU
   go_upto_region 7 with(first
    |(refine lM aY aw ?_)
    |(at_builtin;refine bX _ rfl _ _ 123 rfl w.heap.size 108 i0 (.agg #[(0:Int),(0:Int),(0:Int)]) 3 24 eQ hi bb bc Y rfl (by decide) (.slice A' m c') m _ rfl (by exact HO.out.alloc _) ⟨wr.heap.size,0,none⟩ 1 1 [.int .i64 t,.int .i64 r,.int .i64 n] rfl rfl (λj y h=>dH wr [.int .i64 t,.int .i64 r,.int .i64 n] 108 j y h) (fw (c:=#[.int .i64 t,.int .i64 r,.int .i64 n]) rfl) (by decide) (by unfold maxLen;omega) (by omega) (by simp;omega) (wr.heap.size+1) (by simp) ?_;intro g D w5 ar ae ha a8;have a0:=hid ar;have bj:=hid ((Q.out.alloc bi _).grown ae (by simp;omega) (λb hb=>(HO.out.lt b hb).1));clear ar ae ha a8))
   go_upto_region 8 with fail;clear aY HO Q aW HM;have a1:slid M (⟨⟨t,r⟩,n⟩:Gid) m=M++[⟨⟨t,r⟩,n⟩]:=by rw[H.out];exact ju _ _
   have bk:=hid (show w5.ownsRow w.heap.size 108 3 (.slice (some ⟨g,0,none⟩) (m+1) D) (m+1) ((slid M (⟨⟨t,r⟩,n⟩:Gid) m).flatMap idL) by rw[a1,aI];exact a0.out);clear a1 a0;generalize w5=w6 at *;go_loopw [8] (λi wx=>∃(q:Nat),i= .int .i64 q∧q<=m∧Hid (dY (λy:Gid=>Gid.lt ⟨⟨t,r⟩,n⟩ y) .zero M q=dY (λy:Gid=>Gid.lt ⟨⟨t,r⟩,n⟩ y) .zero M M.length)∧Hid (wx.ownsRow w.heap.size 108 3 (.slice (some ⟨g,0,none⟩) (m+1) D) (m+1) ((slid M (⟨⟨t,r⟩,n⟩:Gid) q).flatMap idL))∧Hid (Below w.heap.size w wx)) (λi _=>(RowKit.intOf i).toNat)
   case atStart=>exact⟨m,rfl,aa _,hid (by rw[H.out]),bk,bj⟩
   case round=>
    obtain⟨q,rfl,hq,au,J,av⟩:=hrel;by_cases h0:0<q
    ·obtain⟨q,rfl⟩:∃p,q=p+1:=⟨q-1,by omega⟩;have ax:q+1<=M.length:=by rw[<-H.out];exact hq
     have af:m+1=(slid M (⟨⟨t,r⟩,n⟩:Gid) (q+1)).length:=by rw[eO,<-H.out]
     obtain⟨g3,e3,-,a2,I⟩:=cz (f:=idL) (λ_=>rfl) af J.out (k:=q) (by omega) .zero;cases e3;obtain⟨g4,e4,-,-,O⟩:=cz (f:=idL) (λ_=>rfl) af J.out (k:=q+1) (by omega) .zero;cases e4;rw[js ax] at I;rw[ku ax] at O;have az:=ip (L:=M) (x:=(⟨⟨t,r⟩,n⟩:Gid)) (z:= .zero) ax;obtain⟨y,hy⟩:∃y,y=M.getD q .zero:=⟨_,rfl⟩;rw[<-hy] at I az;obtain⟨b2,aA⟩:∃b,b=(λy:Gid=>Gid.lt ⟨⟨t,r⟩,n⟩ y) y:=⟨_,rfl⟩;have a3:=hid (show(λy:Gid=>Gid.lt ⟨⟨t,r⟩,n⟩ y) (M.getD q .zero)=b2 by rw[<-hy,aA]);clear hy;obtain⟨⟨F,G⟩,l⟩:=y;have bl:=hid (show wr.rangeAt g (q*3) [.int .i64 F,.int .i64 G,.int .i64 l] from I);have bm:=hid (show wr.rangeAt g ((q+1)*3) [.int .i64 t,.int .i64 r,.int .i64 n] from O);have y0:=aj (w:=wr) (a:=⟨g,q*3,none⟩) (v:= .int .i64 F) (I 0 _ rfl);have y1:=aj (w:=wr) (a:=⟨g,q*3+1,none⟩) (v:= .int .i64 G) (I 1 _ rfl);have y2:=aj (w:=wr) (a:=⟨g,q*3+2,none⟩) (v:= .int .i64 l) (I 2 _ rfl);have x0:=aj (w:=wr) (a:=⟨g,(q+1)*3,none⟩) (v:= .int .i64 t) (O 0 _ rfl);have x1:=aj (w:=wr) (a:=⟨g,(q+1)*3+1,none⟩) (v:= .int .i64 r) (O 1 _ rfl);have x2:=aj (w:=wr) (a:=⟨g,(q+1)*3+2,none⟩) (v:= .int .i64 n) (O 2 _ rfl);have bn:=hid az;have k1:(0:Int)<(q:Int)+1:=by omega
     have k2:(0:Int)<=(q:Int):=by omega
     have k3:(q:Int)<(m:Int)+1:=by omega
     have k4:(q:Int)+1<(m:Int)+1:=by omega
     have k5:(0:Int)<=(q:Int)+1:=by omega
     have k6:IntKind.i64.wrap (q:Int)=(q:Int):=by rw[bz];omega
     have U:=hid af;have a4:=λW=>gx t r n F G l W;obtain⟨zc,aB⟩:∃z,z=rcmpD ⟨⟨t,r⟩,n⟩ ⟨⟨F,G⟩,l⟩:=⟨_,rfl⟩;rw[<-aB] at a4;have Y:decide (0<=zc)= !b2:=by rw[aB,jW,aA]
     have bE:decide (zc<0)=b2:=by cases b2<;>simp at Y ⊢ <;>omega
     clear aB Y;have cA:=λd os=>ay (a4 (grow (redrawn wr d) os));clear I O aA az af;cases b2 with
     |false=>
      go_upto_region 8 with fail;refine rqb ?_
      repeat(any_goals(first|go_big_quiet_step (with_reducible exact cA _ _)|quiet_step (with_reducible exact cA _ _)))
      refine qz λE B=> ?_;have aC:=hid (show((N.take (k+1)).foldl stepE [])=slid M (⟨⟨t,r⟩,n⟩:Gid) (q+1) by rw[aZ.out];unfold insB;rw[<-au.out,ge (.inr ⟨q,rfl,a3.out⟩)]);have aD:=kO J B;have aE:=bT av B;go_wp2;go_roundw
      case rel=>exact⟨k+1,some ⟨g,0,none⟩,D,m+1,_,by omega,by go_num,rfl,by omega,U,hid aC.out.symm,aD,aE⟩
      case measure=>(simp[RowKit.intOf];omega)
     | true=>
      go_upto_region 8 with fail;refine rqb ?_
      repeat(any_goals(first|go_big_quiet_step (with_reducible exact cA _ _)|quiet_step (with_reducible exact cA _ _)))
      refine qz λE B=> ?_;have a9:=hid (show dY (λy:Gid=>Gid.lt ⟨⟨t,r⟩,n⟩ y) .zero M q=dY (λy:Gid=>Gid.lt ⟨⟨t,r⟩,n⟩ y) .zero M M.length by rw[<-au.out,iF a3.out]);have aG:=hid (cd bl.out a2 B);have aH:=hid (cd bm.out a2 B);have X:=kO J B;have ba:=bT av B;clear y0 y1 y2 x0 x1 x2 cA J B;go_upto_region 10 with fail;obtain⟨V1,aJ⟩:∃V,V=E.drew.setCells g ((q+1)*3) (#[.int .i64 F,.int .i64 G,.int .i64 l]:Array Value).toList:=⟨_,rfl⟩;have P:V1.ownsRow w.heap.size 108 3 (.slice (some ⟨g,0,none⟩) (m+1) D) (m+1) (((slid M (⟨⟨t,r⟩,n⟩:Gid) (q+1)).set (q+1) (⟨⟨F,G⟩,l⟩:Gid)).flatMap idL)∧E.drew.grownBy V1 (some g):=by rw[aJ];exact eP (f:=idL) (λ_=>rfl) (by decide) U.out (show E.drew.ownsRow _ _ _ _ _ _ from X.out) (by omega) (⟨⟨F,G⟩,l⟩:Gid)
      obtain⟨V2,aM⟩:∃V,V=V1.setCells g (q*3) (#[.int .i64 t,.int .i64 r,.int .i64 n]:Array Value).toList:=⟨_,rfl⟩;have ah:V2.ownsRow w.heap.size 108 3 (.slice (some ⟨g,0,none⟩) (m+1) D) (m+1) ((((slid M (⟨⟨t,r⟩,n⟩:Gid) (q+1)).set (q+1) (⟨⟨F,G⟩,l⟩:Gid)).set q (⟨⟨t,r⟩,n⟩:Gid)).flatMap idL)∧V1.grownBy V2 (some g):=by rw[aM];exact eP (f:=idL) (λ_=>rfl) (by decide) (by rw[cM];exact U.out) P.1 (by omega) (⟨⟨t,r⟩,n⟩:Gid)
      obtain⟨g5,e5,a5⟩:=ey (show E.drew.ownsRow _ _ _ _ _ _ from X.out) (k:=q+1) (by omega);cases e5;obtain⟨g6,e6,a6⟩:=ey P.1 (k:=q) (by omega);cases e6;have bo:=hid ah.1;have bp:=hid (show E.heap.size<=V2.heap.size∧(Below w.heap.size w E->w.heap.size<=g->Below w.heap.size w V2) from⟨aL (show E.drew.heap.size<=V1.heap.size from P.2.size) ah.2.size,λhb hl=>(hb.drew.grown P.2 (by exact hb.size) (λb e=>by cases e;exact hl)).grown ah.2 (aL hb.size (show E.drew.heap.size<=V1.heap.size from P.2.size)) (λb e=>by cases e;exact hl)⟩);have bq:=hid aJ;have br:=hid aM;have bs:=hid a5;have bt:=hid a6;have bu:=hid (show(#[.int .i64 F,.int .i64 G,.int .i64 l]:Array Value).all (·.oneCell')=true by rw[<-cg];rfl);have bw:=hid (show(#[.int .i64 t,.int .i64 r,.int .i64 n]:Array Value).all (·.oneCell')=true by rw[<-cg];rfl);clear P ah aJ aM a5 a6;refine aR (S:=λ_=>True) (by kernel_rfl) ?_
      try(change wpAnyH _ _ _ _ _ _ _ _ (World.drew _))
      refine tk 0 (.slice (some ⟨g,0,none⟩) (m+1) D) (trivial) ?_;go_simp;refine tk 1 (.int .i64 ((q:Int)+1)) (trivial) ?_;go_simp;refine tk 2 (.slice (some ⟨g,0,none⟩) (m+1) D) (trivial) ?_;go_simp;refine tk 3 (.int .i64 ((q:Int)+1)) (trivial) ?_;go_simp;refine tk 4 (.int .i64 (q:Int)) (trivial) ?_;go_simp;refine tk 5 (.slice (some ⟨g,0,none⟩) (m+1) D) (trivial) ?_;go_simp;refine tk 6 (.int .i64 ((q:Int)+1)) (trivial) ?_;go_simp;refine tk 7 (.int .i64 (q:Int)) (trivial) ?_;go_simp;refine tk 8 (.pointer (some ⟨g,q*3,none⟩)) (trivial) ?_;go_simp;refine tk 10 (.slice (some ⟨g,0,none⟩) (m+1) D) (trivial) ?_;go_simp;refine tk 11 (.int .i64 ((q:Int)+1)) (trivial) ?_;go_simp;refine tk 12 (.pointer (some ⟨g,(q+1)*3,none⟩)) (trivial) ?_;go_simp;refine dp (rs:=[9,13]) (by kernel_rfl) (by simp) ?_;refine aX rfl (λK C=> ?_) (aX rfl (λK C=> ?_) cX)
      focus
       refine bA rfl _ _ rfl g (q*3) rfl [.int .i64 F,.int .i64 G,.int .i64 l] _ (show E.drew.rangeAt _ _ _ from aG.out) aw rfl (by kernel_rfl) ?_;refine C.out _ _ (trivial) (λ_=> ?_);clear C K;refine rd1 13 λK C=> ?_;refine bA rfl _ _ rfl g ((q+1)*3) rfl [.int .i64 t,.int .i64 r,.int .i64 n] _ (show E.drew.rangeAt _ _ _ from aH.out) aw rfl (by kernel_rfl) ?_;refine C.out _ _ (trivial) (λ_=> ?_);clear C K
      rotate_left
      focus
       refine bA rfl _ _ rfl g ((q+1)*3) rfl [.int .i64 t,.int .i64 r,.int .i64 n] _ (show E.drew.rangeAt _ _ _ from aH.out) aw rfl (by kernel_rfl) ?_;refine C.out _ _ (trivial) (λ_=> ?_);clear C K;refine rd1 9 λK C=> ?_;refine bA rfl _ _ rfl g (q*3) rfl [.int .i64 F,.int .i64 G,.int .i64 l] _ (show E.drew.rangeAt _ _ _ from aG.out) aw rfl (by kernel_rfl) ?_;refine C.out _ _ (trivial) (λ_=> ?_);clear C K
      all_goals
       refine tk 14 (.pointer (some ⟨g,(q+1)*3,none⟩)) (trivial) ?_;go_simp;refine rd1 15 λK C=> ?_;refine cy rfl _ _ _ rfl g ((q+1)*3) #[.int .i64 F,.int .i64 G,.int .i64 l] (by rfl) (by rfl) bs.out (by kernel_rfl) bu.out ?_;rw[<-bq.out];refine C.out _ _ (trivial) (λ_=> ?_);clear C K;refine tk 16 (.pointer (some ⟨g,q*3,none⟩)) (trivial) ?_;go_simp;refine rd1 17 λK C=> ?_;refine cy rfl _ _ _ rfl g (q*3) #[.int .i64 t,.int .i64 r,.int .i64 n] (by rfl) (by rfl) bt.out (by kernel_rfl) bw.out ?_;rw[<-br.out];refine C.out _ _ (trivial) (λ_=> ?_);clear C K;refine be (by kernel_rfl) ?_ _;go_simp;go_wp2;go_roundw
       case rel=>exact⟨q,by go_num,by omega,a9,hid (by rw[<-bn.out];exact bo.out),hid (bp.out.2 ba.out (X.out.lt g rfl).1)⟩
       case measure=>(simp[RowKit.intOf];try omega)
    ·obtain rfl:q=0:=by omega
     go_upto_region 8 with fail;refine rqb ?_
     repeat(any_goals(first|go_big_quiet_step (fail)|quiet_step (fail)))
     refine qz λE B=> ?_;have aC:=hid (show((N.take (k+1)).foldl stepE [])=slid M (⟨⟨t,r⟩,n⟩:Gid) 0 by rw[aZ.out];unfold insB;rw[<-au.out];rfl);have U:=hid (show m+1=(slid M (⟨⟨t,r⟩,n⟩:Gid) 0).length by rw[eO,<-H.out]);have aD:=kO J B;have aE:=bT av B;go_wp2;go_roundw
     case rel=>exact⟨k+1,some ⟨g,0,none⟩,D,m+1,_,by omega,by go_num,rfl,by omega,U,hid aC.out.symm,aD,aE⟩
     case measure=>(simp[RowKit.intOf];omega)
  ·obtain rfl:k=l:=by omega
   have i2:¬(k:Int)<(k:Int):=by omega
   have a7:=hid (show M=Z by rw[HZ.out,<-bg.out,<-stepE_map];have h9:=HM.out;rw[ao.out,aK] at h9;exact h9);go_wp2;go_ret;refine⟨A',c',by rw[<-a7.out,<-H.out];rfl,?_,ai.out.trans ((an.out.trans ((ap.out.trans (Q.out.mono ap.out.size)).mono an.out.size)).mono ai.out.size)⟩;rw[<-a7.out,<-H.out];exact iC HO.out (aL ai.out.size (aL an.out.size ap.out.size))
end
end Go.Proofs.YtkhmicndehlneaaGreatDoor
