/- Part 22 of the walks and plain laws that this claim uses, joined. Conditions: as each theorem states. -/
import Derived.Test.YtkhmicndehlneaaGreatDoorYru
namespace Go.Proofs.YtkhmicndehlneaaGreatDoor
set_option maxRecDepth 100000
set_option maxHeartbeats 16000000
set_option linter.unusedVariables false
section
open Go.RowKit Go.Lib Go.Sort
attribute [local go_sem ↓] Go.wp_at_zero Go.wp_at_succ
def opsM (p:Plc) (l:List Gop):List Plc:=(l.filter (λo=>decide (o.kind=0) && o.node.eqb p.n)).map λo=>⟨p.n,p.p,p.name,o.dir⟩
def jb (L:List (Grp×GrX)) (p:Plc):List Plc:=L.flatMap λg=>opsM p g.1.ops
def gT (L:List (Grp×GrX)) (P:List Plc):List Plc:=P.flatMap (jb L)
theorem opsM_succ (p:Plc) {l:List Gop} {j:Nat} (h:j<l.length):opsM p (l.take (j+1))=opsM p (l.take j)++(if (decide ((l.getD j (opO 0 .zero)).kind=0) && (l.getD j (opO 0 .zero)).node.eqb p.n)=true then [⟨p.n,p.p,p.name,(l.getD j (opO 0 .zero)).dir⟩] else []):=by
 unfold opsM;rw[dQ h (opO 0 .zero),jH,bD];congr 1;generalize l.getD j (opO 0 .zero)=o;cases e:(decide (o.kind=0) && o.node.eqb p.n)<;>simp[List.filter,e]
theorem made_any (L:List (Grp×GrX)) (A:Option Addr) (c:Nat) (P:List Plc) (pA:Option Addr) (pc:Nat) (S S2:Nat->Prop) (w:World) (hl:L.length<=100) (aF:∀p∈L,p.1.ops.length<=100) (hp:P.length<=10000) (hR:RowGr w A L) (hG:∀p∈L,GrG w S p) (hP:RowF w S2 pA 8 plcL plc0 P):
  Calls Tryz.prog 110 #[.slice A L.length c,.slice pA P.length pc] w λe w'=>∃A' c',e= .returned (.slice A' (gT L P).length c')∧w'.ownsRow w.heap.size 161 8 (.slice A' (gT L P).length c') (gT L P).length ((gT L P).flatMap plcL)∧Below w.heap.size w w':=by
 obtain⟨i0,hi,a5,a6,a7⟩:=bx info_plc;have HR:=hid hR;have HG:=hid hG;have HP:=hid hP;have a8:=hid aF;clear hR hG hP aF;go_enter Tryz.func110,Tryz.ntmps110;go_upto_region 3 with fail;go_loopw [5,6] (λo i wr=>∃(B:Nat) (A':Option Addr) (c' m:Nat),B<=P.length∧i= .int .i64 B∧o= .slice A' m c'∧m<=B*10000∧Hid (m=(gT L (P.take B)).length)∧Hid (wr.ownsRow w.heap.size 161 8 (.slice A' m c') m ((gT L (P.take B)).flatMap plcL))∧Hid (Below w.heap.size w wr)) (λo i _=>P.length-(RowKit.intOf i).toNat)
 case atStart=>exact⟨0,none,0,0,aq _,rfl,rfl,aq _,hid rfl,hid (aH _ _ _ _),hid (ag _ _)⟩
 case round=>
  obtain⟨B,A',c',m,bo,rfl,rfl,bn,H,K,D⟩:=hrel;by_cases ak:B<P.length
  ·have i1:(0:Int)<=(B:Int):=by omega
   have i2:(B:Int)<(P.length:Int):=by omega
   obtain⟨pb,po,rfl,-,aG,M⟩:=HP.o.range (λ_=>rfl) ak;have am:gT L (P.take (B+1))=gT L (P.take B)++jb L (P.getD B plc0):=by rw[dQ ak plc0];simp[gT]
   generalize gT L (P.take B)=N0 at *;generalize P.getD B plc0=q at *;obtain⟨⟨⟨d,f⟩,g⟩,⟨⟨l,s⟩,u⟩,z,C⟩:=q;have aI:=hid (λW (hB:Below w.heap.size w W)=>show W.rangeAt pb (po+B*8) [.int .i64 d,.int .i64 f,.int .i64 g,.int .i64 l,.int .i64 s,.int .i64 u,.string z,.bool C] from ct M aG hB);have ao:=hid am;clear M aG am;generalize wr=w0 at *;go_upto_region 6 with fail;go_loopw [5,7] (λo i wr=>∃(k:Nat) (A':Option Addr) (c' m:Nat),k<=L.length∧i= .int .i64 k∧o= .slice A' m c'∧m<=B*10000+k*100∧Hid (m=(N0++jb (L.take k) ⟨⟨⟨d,f⟩,g⟩,⟨⟨l,s⟩,u⟩,z,C⟩).length)∧Hid (wr.ownsRow w.heap.size 161 8 (.slice A' m c') m ((N0++jb (L.take k) ⟨⟨⟨d,f⟩,g⟩,⟨⟨l,s⟩,u⟩,z,C⟩).flatMap plcL))∧Hid (Below w.heap.size w wr)) (λo i _=>L.length-(RowKit.intOf i).toNat)
   case atStart=>exact⟨0,A',c',m,aq _,rfl,rfl,by omega,hid (by rw[H.o];simp[jb]),hid (by have E:=K.o;simpa[jb] using E),D⟩
   case round=>
    obtain⟨k,A',c',m,hk,rfl,rfl,bp,H,K,D⟩:=hrel;by_cases ae:k<L.length
    ·have j1:(0:Int)<=(k:Int):=by omega
     have j2:(k:Int)<(L.length:Int):=by omega
     obtain⟨rb,ro,rfl,aJ,Z⟩:=HR.o.range ae;have aL:jb (L.take (k+1)) ⟨⟨⟨d,f⟩,g⟩,⟨⟨l,s⟩,u⟩,z,C⟩=jb (L.take k) ⟨⟨⟨d,f⟩,g⟩,⟨⟨l,s⟩,u⟩,z,C⟩++opsM ⟨⟨⟨d,f⟩,g⟩,⟨⟨l,s⟩,u⟩,z,C⟩ (L.getD k gp0).1.ops:=by rw[dQ ae gp0];simp[jb]
     have a9:=(HG.o _ (cg ae gp0)).ops;have aP:=a8.o _ (cg ae gp0);generalize jb (L.take k) ⟨⟨⟨d,f⟩,g⟩,⟨⟨l,s⟩,u⟩,z,C⟩=N at *;generalize L.getD k gp0=p at *;obtain⟨⟨⟨t,r⟩,n,dv,⟨ut,ur⟩,ops⟩,⟨dA,dc,oA,oc⟩⟩:=p;obtain⟨X,aQ,ba⟩:=a9;have aP:ops.length<=100:=aP;have ap:=hid (λW (hB:Below w.heap.size w W)=>show W.rangeAt rb (ro+k*7) [.int .i64 t,.int .i64 r,.int .i64 n,.slice dA dv.length dc,.int .i64 ut,.int .i64 ur,.slice oA ops.length oc] from ct Z aJ hB);have bb:=hid aQ;have aR:=hid (show jb (L.take (k+1)) ⟨⟨⟨d,f⟩,g⟩,⟨⟨l,s⟩,u⟩,z,C⟩=N++opsM ⟨⟨⟨d,f⟩,g⟩,⟨⟨l,s⟩,u⟩,z,C⟩ ops from aL);clear Z aJ aL aQ ba;generalize wr=w1 at *;go_upto_region 9 with fail;go_loopw [5,8] (λo i wr=>∃(j:Nat) (A':Option Addr) (c' m:Nat),j<=ops.length∧i= .int .i64 j∧o= .slice A' m c'∧m<=B*10000+k*100+j∧Hid (m=(N0++N++opsM ⟨⟨⟨d,f⟩,g⟩,⟨⟨l,s⟩,u⟩,z,C⟩ (ops.take j)).length)∧Hid (wr.ownsRow w.heap.size 161 8 (.slice A' m c') m ((N0++N++opsM ⟨⟨⟨d,f⟩,g⟩,⟨⟨l,s⟩,u⟩,z,C⟩ (ops.take j)).flatMap plcL))∧Hid (Below w.heap.size w wr)) (λo i _=>ops.length-(RowKit.intOf i).toNat)
     case atStart=>exact⟨0,A',c',m,aq _,rfl,rfl,by omega,hid (by rw[H.o];simp[opsM]),hid (by have E:=K.o;simpa[opsM] using E),D⟩
     case round=>
      obtain⟨j,A',c',m,hj,rfl,rfl,bq,H,K,D⟩:=hrel;have bc:=hid (ap.o wr D.o);have ad:=D.o.size;have g6:wr.cell? ⟨rb,ro+k*7+6,none⟩=some (.slice oA ops.length oc):=bc.o 6 _ rfl;by_cases aT:j<ops.length
      ·have l1:(0:Int)<=(j:Int):=by omega
       have l2:(j:Int)<(ops.length:Int):=by omega
       obtain⟨U,Y,rfl,-,aU,aV⟩:=bb.o j aT;have aW:=jD aV;have au:=opsM_succ ⟨⟨⟨d,f⟩,g⟩,⟨⟨l,s⟩,u⟩,z,C⟩ aT;generalize ops.getD j (opO 0 .zero)=o at *;generalize X j=x at *;obtain⟨kd,⟨⟨nt,nr⟩,ni⟩,⟨⟨pt,pr⟩,pi⟩,nm,J,a2,⟨⟨bd,ar⟩,ai⟩,⟨⟨et,er⟩,ei⟩,tx,aE⟩:=o;obtain⟨sA,sc,eA,ec⟩:=x;have av:=hid (λW (hB:Below w.heap.size w W)=>show W.rangeAt U (Y+j*18) [.int .i64 kd,.int .i64 nt,.int .i64 nr,.int .i64 ni,.int .i64 pt,.int .i64 pr,.int .i64 pi,.string nm,.bool J,.slice sA a2.length sc,.int .i64 bd,.int .i64 ar,.int .i64 ai,.int .i64 et,.int .i64 er,.int .i64 ei,.string tx,.slice eA aE.length ec] from ct aW aU hB);obtain⟨b1,aw⟩:∃b,b=decide (kd=0):=⟨_,rfl⟩;obtain⟨b2,ax⟩:∃b,b=Gid.eqb ⟨⟨nt,nr⟩,ni⟩ ⟨⟨d,f⟩,g⟩:=⟨_,rfl⟩;have q1:(kd == 0)=b1:=by rw[aw];rfl
       have q2:=eN nt nr ni d f g b2 ax.symm;have O:=hid (show opsM ⟨⟨⟨d,f⟩,g⟩,⟨⟨l,s⟩,u⟩,z,C⟩ (ops.take (j+1))=opsM ⟨⟨⟨d,f⟩,g⟩,⟨⟨l,s⟩,u⟩,z,C⟩ (ops.take j)++(if (b1 && b2)=true then [(⟨⟨⟨d,f⟩,g⟩,⟨⟨l,s⟩,u⟩,z,J⟩:Plc)] else []) by rw[au,aw,ax]);have Q:=hid (av.o wr D.o);have ay:=hid (aI.o wr D.o);have y6:=aj g6;have z0:=aj (w:=wr) (a:=⟨U,Y+j*18,none⟩) (v:= .int .i64 kd) (Q.o 0 _ rfl);have z1:=aj (w:=wr) (a:=⟨U,Y+j*18+1,none⟩) (v:= .int .i64 nt) (Q.o 1 _ rfl);have z2:=aj (w:=wr) (a:=⟨U,Y+j*18+2,none⟩) (v:= .int .i64 nr) (Q.o 2 _ rfl);have be:=aj (w:=wr) (a:=⟨U,Y+j*18+1+1,none⟩) (v:= .int .i64 nr) (Q.o 2 _ rfl);have z3:=aj (w:=wr) (a:=⟨U,Y+j*18+3,none⟩) (v:= .int .i64 ni) (Q.o 3 _ rfl);have bf:=aj (w:=wr) (a:=⟨U,Y+j*18+1+2,none⟩) (v:= .int .i64 ni) (Q.o 3 _ rfl);have p0:=aj (w:=wr) (a:=⟨pb,po+B*8,none⟩) (v:= .int .i64 d) (ay.o 0 _ rfl);have p1:=aj (w:=wr) (a:=⟨pb,po+B*8+1,none⟩) (v:= .int .i64 f) (ay.o 1 _ rfl);have p2:=aj (w:=wr) (a:=⟨pb,po+B*8+2,none⟩) (v:= .int .i64 g) (ay.o 2 _ rfl);clear aW aU aV au aw ax;cases b1 with
       |false=>
        go_upto_region 11 with fail;refine rqb ?_
        repeat(any_goals(first|go_big_quiet_step (fail)|quiet_step (fail)))
        refine qz λG I=> ?_;have R:=kO K I;have F:=hid (D.o.trans (I.mono ad));go_wp2;go_roundw
        case rel=>exact⟨j+1,A',c',m,by omega,by go_num,rfl,by omega,hid (by rw[O.o];simpa using H.o),hid (by rw[O.o];simpa using R.o),F⟩
        case measure=>(simp[RowKit.intOf];omega)
       | true=>
        cases b2 with
        |false=>
         go_upto_region 11 with fail;refine rqb ?_
         repeat(any_goals(first|go_big_quiet_step (fail)|quiet_step (fail)))
         refine qz λG I=> ?_;have R:=kO K I;have F:=hid (D.o.trans (I.mono ad));go_wp2;go_roundw
         case rel=>exact⟨j+1,A',c',m,by omega,by go_num,rfl,by omega,hid (by rw[O.o];simpa using H.o),hid (by rw[O.o];simpa using R.o),F⟩
         case measure=>(simp[RowKit.intOf];omega)
        | true=>
         go_upto_region 11 with fail;refine rqb ?_
         repeat(any_goals(first|go_big_quiet_step (fail)|quiet_step (fail)))
         refine qz λG I=> ?_;have R:=kO K I;have F:=hid (D.o.trans (I.mono ad));have bg:=hid (aI.o G F.o);have br:=hid (av.o G F.o);have bs:=hid (ap.o G F.o);have az:=F.o.size;clear y6 z0 z1 z2 be z3 bf p0 p1 p2 g6
         go_upto_region 13 with(first
          |(refine lM bg co ?_)
          |(refine bR rfl _ _ _ rfl _ _ _ _ rfl ?_ rfl ?_ ?_ ?_ ?_;(focus(simp;done));kernel_rfl;rfl;rfl))
         have af:=F.o.alloc az (.cells #[d,f,g,l,s,u,z,C] 161);have aX:Below G.heap.size G (G.alloc (.cells #[d,f,g,l,s,u,z,C] 161)):=(ag _ _).alloc (aa _) _;have aA:=hid (an G (.cells #[d,f,g,l,s,u,z,C] 161));generalize hW:G.alloc (.cells #[d,f,g,l,s,u,z,C] 161)=W at *;have aY:=hid af;have bh:=kO R aX;have aB:=av.o W af;have aC:=ap.o W af;have c6:W.cell? ⟨rb,ro+k*7+6,none⟩=some (.slice (some ⟨U,Y,none⟩) ops.length oc):=aC 6 _ rfl;have c8:W.cell? ⟨U,Y+j*18+8,none⟩=some (.bool J):=aB 8 _ rfl;have c7:=cw7 aA.o;have f7:W.frozen? ⟨G.heap.size,7,none⟩=false:=aS _ _ _ _ _ aA.o;have aZ:∀b,(Value.slice A' m c').ownBlock=some b->b≠G.heap.size:=λb e=>by have:=(R.o.lt b e).2;omega
         have bi:=hid (show(Value.slice A' m c').ownBlock≠some G.heap.size from λe=>aZ _ e rfl);clear hW af aX aB aC aZ;go_upto_region 14 with fail;obtain⟨V1,ab⟩:∃V,V=W.setCell ⟨G.heap.size,7,none⟩ (.bool J):=⟨_,rfl⟩;have bj:=hid (show V1.heap[G.heap.size]? =some (.cells #[d,f,g,l,s,u,z,J] 161 (0,0)) by rw[ab];exact gF (c:=#[.int .i64 d,.int .i64 f,.int .i64 g,.int .i64 l,.int .i64 s,.int .i64 u,.string z,.bool C]) aA.o 7 (.bool J) rfl);have a0:=hid (show V1.ownsRow w.heap.size 161 8 (.slice A' m c') m ((N0++N++opsM ⟨⟨⟨d,f⟩,g⟩,⟨⟨l,s⟩,u⟩,z,C⟩ (ops.take j)).flatMap plcL) by rw[ab];exact gG bh.o bi.o 7 (.bool J));have a1:=hid (show Below w.heap.size w V1 by rw[ab];exact aY.o.grown (di G.heap.size 7 (.bool J)) aY.o.size (λb e=>by cases e;exact az));have a3:=a1.o.size;rw[<-ab];clear ab c6 c7 c8 f7
         go_wp2_with (first
          |(refine lA bj co ?_)
          |(at_builtin;refine cm _ rfl _ _ 101 rfl w.heap.size 161 i0 (.agg #[(0:Int),(0:Int),(0:Int),(0:Int),(0:Int),(0:Int),.string ⟨#[]⟩,false]) 8 72 Tryz.underlying101 hi a5 a6 a7 rfl (by decide) (.slice A' m c') m _ rfl (by exact a0.o.alloc _) ⟨V1.heap.size,0,none⟩ 1 1 [.int .i64 d,.int .i64 f,.int .i64 g,.int .i64 l,.int .i64 s,.int .i64 u,.string z,.bool J] rfl rfl (λj y h=>dH V1 [.int .i64 d,.int .i64 f,.int .i64 g,.int .i64 l,.int .i64 s,.int .i64 u,.string z,.bool J] 161 j y h) (fx (c:=#[.int .i64 d,.int .i64 f,.int .i64 g,.int .i64 l,.int .i64 s,.int .i64 u,.string z,.bool J]) rfl) (by decide) (by unfold maxLen;omega) (by omega) (by simp;omega) (V1.heap.size+1) (by simp) ?_;intro gq bk w5 aD ah ha a4;have bl:=hid aD;have bm:=hid ((a1.o.alloc a3 _).grown ah (by simp;omega) (λb hb=>(a0.o.lt b hb).1));clear aD ah ha a4))
         go_roundw
         case rel=>exact⟨j+1,some ⟨gq,0,none⟩,bk,m+1,by omega,by go_num,rfl,by omega,hid (by rw[O.o,aN (show(true && true)=true from rfl),<-aM,al,<-H.o];rfl),hid (by rw[O.o,aN (show(true && true)=true from rfl),<-aM,aK];exact bl.o),bm⟩
         case measure=>(simp[RowKit.intOf];omega)
      ·obtain rfl:j=ops.length:=by omega
       have l2:¬(ops.length:Int)<(ops.length:Int):=by omega
       have T:=hid (show m=(N0++jb (L.take (k+1)) ⟨⟨⟨d,f⟩,g⟩,⟨⟨l,s⟩,u⟩,z,C⟩).length by rw[aR.o,<-aM];have E:=H.o;rw[aO] at E;exact E);have ac:=hid (show wr.ownsRow w.heap.size 161 8 (.slice A' m c') m ((N0++jb (L.take (k+1)) ⟨⟨⟨d,f⟩,g⟩,⟨⟨l,s⟩,u⟩,z,C⟩).flatMap plcL) by rw[aR.o,<-aM];have E:=K.o;rw[aO] at E;exact E);go_wp2;go_roundw
       case rel=>exact⟨k+1,A',c',m,by omega,by go_num,rfl,by omega,T,ac,D⟩
       case measure=>(simp[RowKit.intOf];omega)
    ·obtain rfl:k=L.length:=by omega
     have j2:¬(L.length:Int)<(L.length:Int):=by omega
     have T:=hid (show m=(gT L (P.take (B+1))).length by rw[ao.o];have E:=H.o;rw[aO] at E;exact E);have ac:=hid (show wr.ownsRow w.heap.size 161 8 (.slice A' m c') m ((gT L (P.take (B+1))).flatMap plcL) by rw[ao.o];have E:=K.o;rw[aO] at E;exact E);go_wp2;go_roundw
     case rel=>exact⟨B+1,A',c',m,by omega,by go_num,rfl,by omega,T,ac,D⟩
     case measure=>(simp[RowKit.intOf];omega)
  ·obtain rfl:B=P.length:=by omega
   have i2:¬(P.length:Int)<(P.length:Int):=by omega
   have T:=hid (show m=(gT L P).length by have E:=H.o;rw[aO] at E;exact E);have ac:=hid (show wr.ownsRow w.heap.size 161 8 (.slice A' m c') m ((gT L P).flatMap plcL) by have E:=K.o;rw[aO] at E;exact E);go_wp2;go_ret;refine⟨A',c',by rw[<-T.o];rfl,?_,D.o⟩;rw[<-T.o];exact ac.o
def cntD (t:ByteArray):Nat:=(cnt t.data.toList).getD 0
theorem cnt_le:∀(n:Nat) (l:List UInt8),l.length<=n->∀m,cnt l=some m->m<=l.length
 |n,[],_,m,h=>by rw[cnt_nil] at h;cases h;exact aa _
 |0,a::l,hl,m,h=>by simp at hl
 | n+1,a::l,hl,m,h=>by
  have hne:a::l≠[]:=by simp
  rw[cnt_step hne] at h
  cases hr:rfL (a::l) with
  |none=>rw[hr] at h;cases h
  | some p=>
   obtain⟨c,k⟩:=p
   rw[hr] at h
   simp only at h
   have hk:=jl hne hr
   have hd:((a::l).drop k).length=(a::l).length-k:=cb ..
   cases hc:cnt ((a::l).drop k) with
   |none=>rw[hc] at h;cases h
   |some q=>
    rw[hc] at h
    have h2:=cnt_le n ((a::l).drop k) (by omega) q hc
    have h3:q+1=m:=by injection h
    omega
theorem cntD_le (t:ByteArray):cntD t<=t.size:=by
 unfold cntD;cases h:cnt t.data.toList with
 |none=>exact aq _
 |some m=>
  have:=cnt_le _ _ (aa _) m h;simpa using this
def im (r:Rn):List Gid:=(List.range (cntD r.tx)).map λ(k:Nat)=>⟨r.el.s,r.el.i+(k:Int)⟩
def eI (N:List Gid) (x:Gid):List Gid:=if N.any (λy=>y.eqb x)=true then N else N++[x]
def gK (L:List Rn):List Gid:=L.foldl (λN r=>(im r).foldl eI N) []
theorem names_len (r:Rn):(im r).length=cntD r.tx:=by unfold im;simp
theorem names_at (r:Rn) {k:Nat} (h:k<cntD r.tx) (z:Gid):(im r).getD k z=⟨r.el.s,r.el.i+(k:Int)⟩:=by
 unfold im;rw[ae,dW,List.getElem?_range h];rfl
theorem any_map (M:List Elt) (x:Gid):(M.map (·.id)).any (λy=>y.eqb x)=M.any (λy:Elt=>Gid.eqb y.id x):=by
 rw[List.any_map];rfl
theorem RowF.one {α:Type} {w:World} {B s:Nat} {A:Option Addr} {f:α->List Value} {z:α} {L:List α} (h:RowF w (λb=>B<=b) A s f z L):∃pb,RowF w (λb=>b=pb) A s f z L∧B<=pb∧(0<L.length->pb<w.heap.size):=by
 by_cases c:0<L.length
 ·obtain⟨b,o,e,j,d,n⟩:=h 0 c;refine⟨b,λk a=> ?_,j,λ_=>d⟩;obtain⟨p,q,g,l,m,i⟩:=h k a;rw[e] at g;cases g;exact⟨b,o,e,rfl,d,i⟩
 ·exact⟨B,λk a=>absurd a (by omega),aa _,λh=>absurd h c⟩
theorem dY (w:World) (g:Nat) (c:Array Value):w.grownBy (w.setRow g c) (some g):=
 ⟨rfl,rfl,rfl,by simp[World.setRow],λk _ hk=>setRow_other _ _ _ _ (λe=>hk (by rw[e]))⟩
theorem range_block {w w':World} {b o:Nat} {cs:List Value} (h:w.rangeAt b o cs) (hb:w'.heap[b]? =w.heap[b]?):w'.rangeAt b o cs:=λj v hv=>(be (w:=w) (w':=w') (a:=⟨b,o+j,none⟩) hb).trans (h j v hv)
theorem there_of {w:World} {g:Nat} {T:TypeId} {c:Array Value} (h:w.heap[g]? =some (.cells c T (0,0))):w.there g 0 c.size:=λj hj=>by
 refine⟨?_,aS _ _ _ _ _ h⟩
 rw[crw h,cj,dG hj];rfl
theorem split6_all (t:ByteArray) (w:World) (f:t.size<=1000000):Calls Tryz.prog 193 #[.string t] w λe w'=>∃A c ps z,e= .returned (.tuple #[.slice A (cntD t) c,.int .i64 z])∧cntD t=List.length ps∧RowF w' (λb=>w.heap.size<=b) A 1 strL ⟨#[]⟩ ps∧Below w.heap.size w w':=by
 refine(split6_row t w f).mono ?_
 intro e w' h
 unfold cntD
 cases a:cnt t.data.toList with
 |none=>rw[a] at h;exact⟨none,0,[],60,h.1,rfl,RowF.nil,h.2⟩
 |some m=>
  rw[a] at h
  obtain⟨A,c,ps,d,g,i,j⟩:=h
  exact⟨A,c,ps,0,g,d,cT (λ_=>rfl) d i,j⟩
theorem elements9_any (L:List Rn) (A:Option Addr) (c:Nat) (S:Nat->Prop) (w:World) (hl:L.length<=10000) (hh:∀p∈L,p.tx.size<=1000∧0<p.el.s.t∧0<=p.el.i∧p.el.i<=1000000) (hR:RowF w S A 7 rnL rn0 L):
  Calls Tryz.prog 183 #[.slice A L.length c] w λe w'=>∃A' c' m,∃M:List Elt,e= .returned (.slice A' m c')∧m=M.length∧M.map (·.id)=gK L∧m<=L.length*1000∧w'.ownsRow w.heap.size 169 7 (.slice A' m c') m (M.flatMap eltL)∧Below w.heap.size w w':=by
 obtain⟨i0,hi,b6,b7,b8⟩:=bx info_elt;have HR:=hid hR;have HH:=hid hh;clear hR hh;go_enter Tryz.func183,Tryz.ntmps183;go_upto_region 3 with fail;go_loopw [3,4] (λo i wr=>∃(k:Nat) (A':Option Addr) (c' m:Nat) (M:List Elt),k<=L.length∧i= .int .i64 k∧o= .slice A' m c'∧m<=k*1000∧Hid (m=M.length)∧Hid (M.map (·.id)=gK (L.take k))∧Hid (wr.ownsRow w.heap.size 169 7 (.slice A' m c') m (M.flatMap eltL))∧Hid (Below w.heap.size w wr)) (λo i _=>L.length-(RowKit.intOf i).toNat)
 case atStart=>exact⟨0,none,0,0,[],aq _,rfl,rfl,aq _,hid rfl,hid rfl,hid (aH w w.heap.size 169 7),hid (ag _ _)⟩
 case round=>
  obtain⟨k,A',c',m,M,hk,rfl,rfl,bj,P,HM,HO,H⟩:=hrel;by_cases aQ:k<L.length
  ·have i1:(0:Int)<=(k:Int):=by omega
   have i2:(k:Int)<(L.length:Int):=by omega
   obtain⟨T,U,rfl,-,bk,ap⟩:=HR.o.range (λ_=>rfl) aQ;have bl:gK (L.take (k+1))=(im (L.getD k rn0)).foldl eI (gK (L.take k)):=eU _ _ aQ rn0;have bm:=HH.o _ (cg aQ rn0);generalize gK (L.take k)=N at *;generalize L.getD k rn0=p at *;obtain⟨⟨⟨D,X⟩,Y⟩,⟨⟨l,n⟩,d⟩,tx⟩:=p;obtain⟨cA,cB,cC,cy⟩:=(show tx.size<=1000∧0<l∧0<=d∧d<=1000000 from bm);have au:=hid (λW (hB:Below w.heap.size w W)=>show W.rangeAt T (U+k*7) [.int .i64 D,.int .i64 X,.int .i64 Y,.int .i64 l,.int .i64 n,.int .i64 d,.string tx] from ct ap bk hB);have b9:=hid bl;have aR:=H.o.size;have cD:=cntD_le tx;have bn:=hid (split6_all tx wr (by omega));have aS:=hid HO.o.lt;have g6:wr.cell? ⟨T,U+k*7+6,none⟩=some (.string tx):=au.o wr H.o 6 _ rfl;clear ap bk bl bm;generalize wr=w0 at *;go_upto_region 6 with(go_at_call 193;refine bn.o.mono ?_;rintro e w1 ⟨pA,pc,ps,z,rfl,bo,br,bs⟩;have bt:=hid br;have ax:=hid bs;have ca:=hid bo;clear br bs bo);obtain⟨I,bu,b1,aT⟩:=bt.o.one;have am:=hid (H.o.trans (ax.o.mono aR));have cb:=ax.o.size;have bv:=hid (show w1.rangeAt T (U+k*7) [.int .i64 D,.int .i64 X,.int .i64 Y] from bC (pre:=[]) (mid:=[.int .i64 D,.int .i64 X,.int .i64 Y]) (post:=[.int .i64 l,.int .i64 n,.int .i64 d,.string tx]) (au.o w1 am.o));have bw:=kO HO ax.o
   have aU:=hid (show(Value.slice A' m c').ownBlock≠some I from λe=>by have:=(aS.o I e).2;omega);have aV:=hid (show(Value.slice A' m c').ownBlock≠some w1.heap.size from λe=>by have:=(aS.o _ e).2;omega);have b3:=hid (show 0<ps.length->I<w1.heap.size from aT);have bz:=hid bu;clear g6 bu b1 aT
   go_upto_region 7 with(first
    |(refine lM bv az ?_)
    |(refine bR rfl _ _ _ rfl _ _ _ _ rfl ?_ rfl ?_ ?_ ?_ ?_;(focus(simp;done));kernel_rfl;rfl;rfl))
   have ay:Below w1.heap.size w1 (w1.alloc (.cells #[D,X,Y] 108)):=(ag _ _).alloc (aa _) _;have bA:=hid (an w1 (.cells #[D,X,Y] 108));have bB:=bT am ay;have bE:=kO bw ay;have bF:=hid (bz.o.below ay);have bG:=hid (show w.heap.size<=w1.heap.size from am.o.size);generalize hW:w1.alloc (.cells #[D,X,Y] 108)=W at *;generalize cc:w1.heap.size=G at *;clear hW cc ay bn bt ax am bw HO H bz bv aS cb aR;go_upto_region 8 with fail;go_loopw [3,8] (λo i wr=>∃(q:Nat) (A':Option Addr) (c' m:Nat) (M:List Elt) (x B C:Int),q<=cntD tx∧i= .int .i64 q∧o= .slice A' m c'∧m<=k*1000+q∧Hid (m=M.length)∧Hid (M.map (·.id)=((im (⟨⟨⟨D,X⟩,Y⟩,⟨⟨l,n⟩,d⟩,tx⟩:Rn)).take q).foldl eI N)∧Hid (wr.ownsRow w.heap.size 169 7 (.slice A' m c') m (M.flatMap eltL))∧Hid (Below w.heap.size w wr)∧Hid (wr.heap[G]? =some (.cells #[x,B,C] 108 (0,0)))∧Hid (RowF wr (λb=>b=I) pA 1 strL ⟨#[]⟩ ps)∧Hid ((Value.slice A' m c').ownBlock≠some I)∧Hid ((Value.slice A' m c').ownBlock≠some G)) (λo i _=>cntD tx-(RowKit.intOf i).toNat)
   case atStart=>exact⟨0,A',c',m,M,D,X,Y,aq _,rfl,rfl,by omega,P,hid (by rw[HM.o];rfl),bE,bB,bA,bF,aU,aV⟩
   case round=>
    clear P HM bE bB bA bF aU aV bj;obtain⟨q,A',c',m,M,x,B,C,hj,rfl,rfl,cE,P,HM,HO,H,HA,HP,aA,aC⟩:=hrel;by_cases aW:q<cntD tx
    ·have j1:(0:Int)<=(q:Int):=by omega
     have j2:(q:Int)<(cntD tx:Int):=by omega
     have cd:q<ps.length:=by rw[<-ca.o];exact aW
     obtain⟨ce,po,bI,bJ,aD,aX⟩:=HP.o.range (λ_=>rfl) cd;rw[show ce=I from bJ] at bI aD aX;obtain rfl:=bI;have bL:=hid (b3.o (by omega));have aZ:(((im ⟨⟨⟨D,X⟩,Y⟩,⟨⟨l,n⟩,d⟩,tx⟩).take (q+1)).foldl eI N)=eI (M.map (·.id)) ⟨⟨l,n⟩,d+(q:Int)⟩:=by rw[eU _ _ (by rw[names_len];exact aW) Gid.zero,names_at _ aW,HM.o]
     generalize ps.getD q ⟨#[]⟩=E at *;have a0:=hid aZ;have a1:=hid (show wr.rangeAt I (po+q*1) [.string E] from aX);have q0:=eN l n (d+(q:Int)) 0 0 0 false (by rw[<-Bool.not_eq_true,Gid.eqb_iff];intro e;injection e with e1 e2;injection e1 with e3 e4;omega);have k6:IntKind.i64.wrap (d+(q:Int))=(d+(q:Int)):=by rw[bH];omega
     have a2:=H.o.size;have r:=hid (au.o wr H.o);have bM:=hid ((H.o.alloc a2 (.cells #[(0:Int),(0:Int),(0:Int)] 108)).drew);have aG:=hid (show(wr.alloc (.cells #[(0:Int),(0:Int),(0:Int)] 108)).drew.heap[wr.heap.size]? =some (.cells #[(0:Int),(0:Int),(0:Int)] 108 (0,0)) from an wr (.cells #[(0:Int),(0:Int),(0:Int)] 108));have bN:=hid (show(wr.alloc (.cells #[(0:Int),(0:Int),(0:Int)] 108)).drew.there wr.heap.size 0 3 from there_of aG.o);have cf:=hid (show(#[.int .i64 l,.int .i64 n,.int .i64 (d+(q:Int))]:Array Value).all (·.oneCell')=true by rw[<-cv];rfl);have a3:=hid (show(#[.int .i64 l,.int .i64 n,.int .i64 (d+(q:Int))]:Array Value).toList.all (·.oneCell')=true from rfl);obtain⟨wv,hV⟩:∃V,V=(wr.alloc (.cells #[(0:Int),(0:Int),(0:Int)] 108)).drew.setCells wr.heap.size 0 (#[.int .i64 l,.int .i64 n,.int .i64 (d+(q:Int))]:Array Value).toList:=⟨_,rfl⟩;have a4:wv=(wr.alloc (.cells #[(0:Int),(0:Int),(0:Int)] 108)).drew.setRow wr.heap.size #[.int .i64 l,.int .i64 n,.int .i64 (d+(q:Int))]:=by rw[hV];exact fu _ _ _ _ _ _ aG.o
     have R:=hid (show Below wr.heap.size wr wv by rw[a4];exact Below.setRow' (((ag _ _).alloc (aa _) _).drew) (aa _) _);have HX:=hid (show wv.heap[wr.heap.size]? =some (.cells #[l,n,.int .i64 (d+(q:Int))] 108 (0,0)) by rw[a4];exact aF _ aG.o);have bO:=hid (H.o.trans (R.o.mono a2));have HV:=hid hV;have ch:=kO HO R.o;have bP:=hid (HP.o.below R.o);have bQ:=bK R.o HA;have ci:=hid (ct a1.o aD R.o);have a5:=hid (bS aD R.o.size);have cj:=hid (show(Value.slice A' m c').ownBlock≠some wr.heap.size from λe=>by have:=(HO.o.lt _ e).2;omega);clear aZ aX hV a4 bJ;go_upto_region 10 with fail;refine aY (S:=λW'=>W'.rangeAt T (U+k*7) [.int .i64 D,.int .i64 X,.int .i64 Y,.int .i64 l,.int .i64 n,.int .i64 d,.string tx]) (by kernel_rfl) ?_
     try(change wpAnyH _ _ _ _ _ _ _ _ (World.drew _))
     refine tk 0 (.slice (some ⟨T,U,none⟩) L.length c) (r.o) ?_;go_simp;refine tk 1 (.int .i64 (k:Int)) (r.o) ?_;go_simp;refine tk 2 (.pointer (some ⟨T,U+k*7,none⟩)) (r.o) ?_;go_simp;refine tk 3 (.pointer (some ⟨T,U+k*7+3,none⟩)) (r.o) ?_;go_simp;refine tk 4 (.pointer (some ⟨T,U+k*7+3,none⟩)) (r.o) ?_;go_simp;refine tk2 5 (.agg #[l,n]) rfl (bc (by rfl) _ _ rfl T (U+k*7+3) rfl [.int .i64 l,.int .i64 n] _ (λW' Z=>bC (pre:=[.int .i64 D,.int .i64 X,.int .i64 Y]) (mid:=[.int .i64 l,.int .i64 n]) (post:=[.int .i64 d,.string tx]) (Z)) cr rfl (by kernel_rfl)) (r.o) ?_;go_simp;refine tk 6 (.slice (some ⟨T,U,none⟩) L.length c) (r.o) ?_;go_simp;refine tk 7 (.int .i64 (k:Int)) (r.o) ?_;go_simp;refine tk 8 (.pointer (some ⟨T,U+k*7,none⟩)) (r.o) ?_;go_simp;refine tk 9 (.pointer (some ⟨T,U+k*7+3,none⟩)) (r.o) ?_;go_simp;refine tk 10 (.pointer (some ⟨T,U+k*7+3+2,none⟩)) (r.o) ?_;go_simp;refine tk2 11 (.int .i64 d) rfl (Or.inl ⟨by rfl,λW' Z=>by(have c_:W'.cell? ⟨T,U+k*7+3+2,none⟩=some (.int .i64 d):=Z 5 _ rfl;go_simp)⟩) (r.o) ?_;go_simp;refine tk 12 (.int .i64 (q:Int)) (r.o) ?_;go_simp;refine tk 13 (.int .i64 (d+(q:Int))) (r.o) ?_;go_simp;refine tk 14 (.agg #[l,n,.int .i64 (d+(q:Int))]) (r.o) ?_;go_simp;refine rd1 15 λK hK=> ?_;go_simp;refine hK.out _ _ (au.o _ bM.o) (λ_=> ?_);clear hK K;refine rd1 16 λK hK=> ?_
     refine cY rfl _ _ _ rfl wr.heap.size 0 #[.int .i64 l,.int .i64 n,.int .i64 (d+(q:Int))] (by rfl) (by rfl) bN.o (by kernel_rfl) cf.o ?_;rw[<-HV.o];refine hK.out _ _ (au.o _ bO.o) (λ_=> ?_);clear hK K;refine bp (by kernel_rfl) ?_ _;go_simp;generalize ck:wr.heap.size=xB at *;clear ck aG bN bM R a1 r HO H HP HA HV aD;go_upto_region 13 with(refine lA HX az ?_);go_loopw [10,11] (λh i wr=>∃(j:Nat) (b:Bool),j<=m∧i= .int .i64 j∧h= .bool b∧Hid (b=(M.take j).any (λy:Elt=>Gid.eqb y.id ⟨⟨l,n⟩,d+(q:Int)⟩))∧Hid (Below wv.heap.size wv wr)) (λh i _=>m-(RowKit.intOf i).toNat)
     case atStart=>exact⟨0,false,aq _,rfl,rfl,hid rfl,hid (ag _ _)⟩
     case round=>
      obtain⟨j,b,hj,rfl,rfl,HB,F⟩:=hrel;have ah:=bT bO F.o;have aI:=kO ch F.o;by_cases bU:j<m
      ·have j1:(0:Int)<=(j:Int):=by omega
       have j2:(j:Int)<(m:Int):=by omega
       obtain⟨g2,rfl,-,cF,aJ⟩:=cZ (f:=eltL) (λ_=>rfl) P.o aI.o bU elt0;have bV:(M.take (j+1)).any (λy:Elt=>Gid.eqb y.id ⟨⟨l,n⟩,d+(q:Int)⟩)=((M.take j).any (λy:Elt=>Gid.eqb y.id ⟨⟨l,n⟩,d+(q:Int)⟩) || (λy:Elt=>Gid.eqb y.id ⟨⟨l,n⟩,d+(q:Int)⟩) (M.getD j elt0)):=by rw[dQ (by rw[<-P.o];exact bU) elt0,jx];simp
       generalize M.getD j elt0=y at *;obtain⟨⟨⟨t2,r2⟩,n2⟩,⟨⟨u2,v2⟩,i2⟩,p2⟩:=y;obtain⟨b2,a6⟩:∃b,b=(λy:Elt=>Gid.eqb y.id ⟨⟨l,n⟩,d+(q:Int)⟩) ⟨⟨⟨t2,r2⟩,n2⟩,⟨⟨u2,v2⟩,i2⟩,p2⟩:=⟨_,rfl⟩;have q1:=eN t2 r2 n2 l n (d+(q:Int)) b2 a6.symm;have bX:=hid (show(M.take (j+1)).any (λy:Elt=>Gid.eqb y.id ⟨⟨l,n⟩,d+(q:Int)⟩)=(b || b2) by rw[bV,HB.o,a6]);have y0:=aj (w:=wr) (a:=⟨g2,j*7,none⟩) (v:= .int .i64 t2) (aJ 0 _ rfl);have y1:=aj (w:=wr) (a:=⟨g2,j*7+1,none⟩) (v:= .int .i64 r2) (aJ 1 _ rfl);have y2:=aj (w:=wr) (a:=⟨g2,j*7+2,none⟩) (v:= .int .i64 n2) (aJ 2 _ rfl);have aL:=(F.o.block _ (lt_of_block HX.o)).trans HX.o;have x0:=aj (w:=wr) (a:=⟨xB,0,none⟩) (v:= .int .i64 l) (crw aL);have x1:=aj (w:=wr) (a:=⟨xB,1,none⟩) (v:= .int .i64 n) (crw aL);have x2:=aj (w:=wr) (a:=⟨xB,2,none⟩) (v:= .int .i64 (d+(q:Int))) (crw aL);clear aL;clear aJ a6 bV;cases b with
       |true=>
        go_upto_region 15 with fail;refine rqb ?_
        repeat(any_goals(first|go_big_quiet_step (fail)|quiet_step (fail)))
        refine qz λwq a7=> ?_;go_wp2;go_roundw
        case rel=>exact⟨j+1,true,by omega,by go_num,rfl,hid (by rw[bX.o];rfl),bT F a7⟩
        case measure=>(simp[RowKit.intOf];omega)
       |false=>
        go_upto_region 15 with fail;refine rqb ?_
        repeat(any_goals(first|go_big_quiet_step (fail)|quiet_step (fail)))
        refine qz λwq a7=> ?_;go_wp2;go_roundw
        case rel=>exact⟨j+1,b2,by omega,by go_num,rfl,hid (by rw[bX.o];rfl),bT F a7⟩
        case measure=>(simp[RowKit.intOf];omega)
      ·obtain rfl:j=m:=by omega
       have j2:¬(j:Int)<(j:Int):=by omega
       have ao:b=M.any (λy:Elt=>Gid.eqb y.id ⟨⟨l,n⟩,d+(q:Int)⟩):=by rw[HB.o,P.o,aO]
       cases b with
       | true=>
        have a8:=hid (show(((im ⟨⟨⟨D,X⟩,Y⟩,⟨⟨l,n⟩,d⟩,tx⟩).take (q+1)).foldl eI N)=M.map (·.id) by rw[a0.o];unfold eI;rw[any_map,aN ao.symm]);clear ao;have ae:=bK F.o HX;have ab:=bK F.o bQ;have a9:=hid (bP.o.agr (Agr.below F.o));go_upto_region 18 with fail;obtain⟨V3,J⟩:∃V,V=wr.setRow G #[.int .i64 l,.int .i64 n,.int .i64 (d+(q:Int))]:=⟨_,rfl⟩;have ba:=hid J;have bb:=hid (show V3.heap[G]? =some (.cells #[l,n,.int .i64 (d+(q:Int))] 108 (0,0)) by rw[J];exact aF _ ab.o);have bd:=hid (show Below w.heap.size w V3 by rw[J];exact Below.setRow' ah.o bG.o _);have av:=hid (show wr.grownBy V3 (some G) by rw[J];exact dY _ _ _);have be:=hid (aI.o.kept av.o (.inr aC.o));have bf:=hid (a9.o.agr (Agr.grown av.o (λg e1 e2=>by cases e1;exact absurd (show G=I from e2) (by have:=bL.o;omega))));clear J
        go_wp2_with (first
         |(refine lA ae az ?_)
         |(refine bW rfl _ _ _ rfl G 108 #[.int .i64 x,.int .i64 B,.int .i64 C] #[.int .i64 l,.int .i64 n,.int .i64 (d+(q:Int))] rfl rfl ab.o (by kernel_rfl) rfl a3.o ?_;rw[<-ba.o]))
        go_roundw
        case rel=>exact⟨q+1,A',c',j,M,l,n,(d+(q:Int)),by omega,by go_num,rfl,by omega,P,hid a8.o.symm,be,bd,bb,bf,aA,aC⟩
        case measure=>(simp[RowKit.intOf];omega)
       | false=>
        have a8:=hid (show(((im ⟨⟨⟨D,X⟩,Y⟩,⟨⟨l,n⟩,d⟩,tx⟩).take (q+1)).foldl eI N)=(M++[(⟨⟨⟨l,n⟩,d+(q:Int)⟩,⟨⟨x,B⟩,C⟩,E⟩:Elt)]).map (·.id) by rw[a0.o];unfold eI;rw[any_map,aE (by rw[<-ao];decide),bD];rfl);clear ao;have ae:=bK F.o HX;have ab:=bK F.o bQ;have a9:=hid (bP.o.agr (Agr.below F.o));have ac:=hid (show wr.rangeAt xB 0 [.int .i64 l,.int .i64 n,.int .i64 (d+(q:Int))] from bq ae.o);have ad:=hid (show wr.rangeAt G 0 [.int .i64 x,.int .i64 B,.int .i64 C] from bq ab.o);have Q:=hid (show wr.rangeAt I (po+q) [.string E] by have h9:=ct ci.o a5.o F.o;rwa[jJ] at h9);have aM:=hid (bS a5.o F.o.size);have cz:=ah.o.size;go_upto_region 17 with fail;refine aY (S:=λW'=>W'.rangeAt xB 0 [.int .i64 l,.int .i64 n,.int .i64 (d+(q:Int))]∧W'.rangeAt G 0 [.int .i64 x,.int .i64 B,.int .i64 C]∧W'.rangeAt I (po+q) [.string E]) (by kernel_rfl) ?_
        try(change wpAnyH _ _ _ _ _ _ _ _ (World.drew _))
        refine tk 0 (.slice A' j c') (⟨ac.o,ad.o,Q.o⟩) ?_;go_simp;refine tk2 1 (.agg #[l,n,.int .i64 (d+(q:Int))]) rfl (bc (by rfl) _ _ rfl xB (0) rfl [.int .i64 l,.int .i64 n,.int .i64 (d+(q:Int))] _ (λW' Z=>bC (pre:=[]) (mid:=[.int .i64 l,.int .i64 n,.int .i64 (d+(q:Int))]) (post:=[]) (Z.1)) az rfl (by kernel_rfl)) (⟨ac.o,ad.o,Q.o⟩) ?_;go_simp;refine tk2 2 (.agg #[x,B,C]) rfl (bc (by rfl) _ _ rfl G (0) rfl [.int .i64 x,.int .i64 B,.int .i64 C] _ (λW' Z=>bC (pre:=[]) (mid:=[.int .i64 x,.int .i64 B,.int .i64 C]) (post:=[]) (Z.2.1)) az rfl (by kernel_rfl)) (⟨ac.o,ad.o,Q.o⟩) ?_;go_simp;refine tk 3 (.slice (some ⟨I,po,none⟩) (cntD tx) pc) (⟨ac.o,ad.o,Q.o⟩) ?_;go_simp;refine tk 4 (.int .i64 (q:Int)) (⟨ac.o,ad.o,Q.o⟩) ?_;go_simp;refine tk 5 (.pointer (some ⟨I,po+q,none⟩)) (⟨ac.o,ad.o,Q.o⟩) ?_;go_simp;refine tk2 6 (.string E) rfl (Or.inl ⟨by rfl,λW' Z=>by(have c_:W'.cell? ⟨I,po+q,none⟩=some (.string E):=Z.2.2 0 _ rfl;go_simp)⟩) (⟨ac.o,ad.o,Q.o⟩) ?_;go_simp;refine tk 7 (.agg #[l,n,.int .i64 (d+(q:Int)),x,B,C,E]) (⟨ac.o,ad.o,Q.o⟩) ?_;go_simp;have ak:(wr.alloc (.cells #[l,n,.int .i64 (d+(q:Int)),x,B,C,E] 169)).drew.heap.size=wr.heap.size+1:=by show(wr.alloc _).heap.size=_;simp
        have cl:=hid (aI.o.alloc (.cells #[l,n,.int .i64 (d+(q:Int)),x,B,C,E] 169));have cm:=hid (λ(i:Nat) (y:Value) (h:([.int .i64 l,.int .i64 n,.int .i64 (d+(q:Int)),.int .i64 x,.int .i64 B,.int .i64 C,.string E]:List Value)[i]? =some y)=>dH wr [.int .i64 l,.int .i64 n,.int .i64 (d+(q:Int)),.int .i64 x,.int .i64 B,.int .i64 C,.string E] 169 i y h);have cn:=hid (show ∀u∈([.int .i64 l,.int .i64 n,.int .i64 (d+(q:Int)),.int .i64 x,.int .i64 B,.int .i64 C,.string E]:List Value),u.oneCell'=true from fx (c:=#[.int .i64 l,.int .i64 n,.int .i64 (d+(q:Int)),.int .i64 x,.int .i64 B,.int .i64 C,.string E]) rfl);have co:=hid ((ah.o.alloc ah.o.size (.cells #[l,n,.int .i64 (d+(q:Int)),x,B,C,E] 169)).drew);have af:=hid (show Below wr.heap.size wr (wr.alloc (.cells #[l,n,.int .i64 (d+(q:Int)),x,B,C,E] 169)).drew from((ag _ _).alloc (aa _) _).drew);refine rd1 8 λK hK=> ?_;go_simp;refine hK.out _ _ (⟨ct ac.o (lt_of_block ae.o) af.o,ct ad.o (lt_of_block ab.o) af.o,ct Q.o aM.o af.o⟩) (λ_=> ?_);clear hK K;refine rd1 9 λK hK=> ?_
        refine ds _ (by rfl) _ _ 112 (by rfl) w.heap.size 169 i0 (.agg #[(0:Int),(0:Int),(0:Int),(0:Int),(0:Int),(0:Int),.string ⟨#[]⟩]) 7 64 Tryz.underlying112 hi b6 b7 b8 rfl (by decide) (.slice A' j c') j _ (by rfl) (by exact cl.o) ⟨wr.heap.size,0,none⟩ 1 1 [.int .i64 l,.int .i64 n,.int .i64 (d+(q:Int)),.int .i64 x,.int .i64 B,.int .i64 C,.string E] (by rfl) (by rfl) (by exact cm.o) cn.o (by decide) (by unfold maxLen;omega) (by omega) (by rw[ak];have:=ah.o.size;omega) (wr.heap.size+1) ak ?_;intro gq aw w5 aP O bg b4;have cp:=hid aP;have cq:=hid (co.o.grown O (by rw[ak];have:=ah.o.size;omega) (λb hb=>(aI.o.lt b hb).1));have bY:=hid ((O.block xB (by rw[ak];have:=lt_of_block ae.o;omega) (λe=>cj.o e.symm)).trans ((af.o.block _ (lt_of_block ae.o)).trans ae.o));have bh:=hid ((O.block G (by rw[ak];have:=lt_of_block ab.o;omega) (λe=>aC.o e.symm)).trans ((af.o.block _ (lt_of_block ab.o)).trans ab.o));have cs:=hid ((a9.o.below af.o).agr (Agr.grown O (λg e1 e2=>aA.o (e1.trans (congrArg some e2)))));have bZ:=hid (show(Value.slice (some ⟨gq,0,none⟩) (j+1) aw).ownBlock≠some G from λe=>by(injection (show some gq=some G from e) with e;rcases bg with h|h;exact aC.o (by rw[h,e]);have:=lt_of_block ab.o;omega))
        have cu:=hid (show(Value.slice (some ⟨gq,0,none⟩) (j+1) aw).ownBlock≠some I from λe=>by(injection (show some gq=some I from e) with e;rcases bg with h|h;exact aA.o (by rw[h,e]);have:=aM.o;omega));have cw:=(af.o.block _ (lt_of_block ae.o));have b0:=hid (show w5.rangeAt xB 0 [.int .i64 l,.int .i64 n,.int .i64 (d+(q:Int))]∧w5.rangeAt G 0 [.int .i64 x,.int .i64 B,.int .i64 C]∧w5.rangeAt I (po+q) [.string E] from⟨bq bY.o,bq bh.o,range_block (ct Q.o aM.o af.o) (O.block I (by rw[ak];have:=aM.o;omega) (λe=>aA.o e.symm))⟩);clear aP O bg b4 cw;refine hK.out _ _ (b0.o) (λ_=> ?_);clear hK K;refine tk 10 (.slice (some ⟨gq,0,none⟩) (j+1) aw) (b0.o) ?_;go_simp;refine bp (by kernel_rfl) ?_ _;go_simp;go_upto_region 18 with fail;have b5:=hid (show j+1=(M++[(⟨⟨⟨l,n⟩,d+(q:Int)⟩,⟨⟨x,B⟩,C⟩,E⟩:Elt)]).length by rw[al,<-P.o];rfl);have cx:=hid (show w5.ownsRow w.heap.size 169 7 (.slice (some ⟨gq,0,none⟩) (j+1) aw) (j+1) ((M++[(⟨⟨⟨l,n⟩,d+(q:Int)⟩,⟨⟨x,B⟩,C⟩,E⟩:Elt)]).flatMap eltL) by rw[aK];exact cp.o);obtain⟨V3,J⟩:∃V,V=w5.setRow G #[.int .i64 l,.int .i64 n,.int .i64 (d+(q:Int))]:=⟨_,rfl⟩;have ba:=hid J;have bb:=hid (show V3.heap[G]? =some (.cells #[l,n,.int .i64 (d+(q:Int))] 108 (0,0)) by rw[J];exact aF _ bh.o)
        have bd:=hid (show Below w.heap.size w V3 by rw[J];exact Below.setRow' cq.o bG.o _);have av:=hid (show w5.grownBy V3 (some G) by rw[J];exact dY _ _ _);have be:=hid (cx.o.kept av.o (.inr bZ.o));have bf:=hid (cs.o.agr (Agr.grown av.o (λg e1 e2=>by cases e1;exact absurd (show G=I from e2) (by have:=bL.o;omega))));clear J
        go_wp2_with (first
         |(refine lA bY az ?_)
         |(refine bW rfl _ _ _ rfl G 108 #[.int .i64 x,.int .i64 B,.int .i64 C] #[.int .i64 l,.int .i64 n,.int .i64 (d+(q:Int))] rfl rfl bh.o (by kernel_rfl) rfl a3.o ?_;rw[<-ba.o]))
        go_roundw
        case rel=>exact⟨q+1,some ⟨gq,0,none⟩,aw,j+1,M++[(⟨⟨⟨l,n⟩,d+(q:Int)⟩,⟨⟨x,B⟩,C⟩,E⟩:Elt)],l,n,(d+(q:Int)),by omega,by go_num,rfl,by omega,b5,hid a8.o.symm,be,bd,bb,bf,cu,bZ⟩
        case measure=>(simp[RowKit.intOf];omega)
    ·obtain rfl:q=cntD tx:=by omega
     have j2:¬((cntD tx:Nat):Int)<((cntD tx:Nat):Int):=by omega
     have bi:=hid (show M.map (·.id)=gK (L.take (k+1)) by rw[b9.o];have h9:=HM.o;rw[<-names_len (⟨⟨⟨D,X⟩,Y⟩,⟨⟨l,n⟩,d⟩,tx⟩:Rn),aO] at h9;exact h9);go_wp2;go_roundw
     case rel=>exact⟨k+1,A',c',m,M,by omega,by go_num,rfl,by omega,P,bi,HO,H⟩
     case measure=>(simp[RowKit.intOf];omega)
  ·obtain rfl:k=L.length:=by omega
   have i2:¬(L.length:Int)<(L.length:Int):=by omega
   have bi:=hid (show M.map (·.id)=gK L by have h9:=HM.o;rw[aO] at h9;exact h9);go_wp2;go_ret;exact⟨A',c',m,rfl,M,P.o,bi.o,bj,HO.o,H.o⟩
def sortI (l:List Gid):List Gid:=l.foldl (λout x=>insB (λy:Gid=>x.lt y) Gid.zero out x) []
def stepE (out:List Gid) (e:Elt):List Gid:=insB (λy:Gid=>e.id.lt y) Gid.zero out e.id
theorem stepE_map (N:List Elt):N.foldl stepE []=sortI (N.map (·.id)):=by unfold sortI;rw[List.foldl_map];rfl
theorem foldE_len:∀(l:List Gid) (out:List Gid),(l.foldl (λout x=>insB (λy:Gid=>x.lt y) Gid.zero out x) out).length=out.length+l.length
 | [],out=>rfl
 |x::l,out=>by rw[ed,foldE_len l,km,bQ];omega
theorem sortI_len (l:List Gid):(sortI l).length=l.length:=by unfold sortI;rw[foldE_len];simp
def fS (L:List (Grp×GrX)) (x:Gid):List Gid:=sortI (gK (fP x L))
theorem elements_any (L:List (Grp×GrX)) (A:Option Addr) (c:Nat) (F G H:Int) (S:Nat->Prop) (l:World) (hl:L.length<=1000) (aR:∀p∈L,p.1.ops.length<=1000) (bf:(fP ⟨⟨F,G⟩,H⟩ L).length<=100) (hh:∀p∈fP ⟨⟨F,G⟩,H⟩ L,p.tx.size<=1000∧0<p.el.s.t∧0<=p.el.i∧p.el.i<=1000000) (hR:RowGr l A L) (hG:∀p∈L,GrG l S p):
  Calls Tryz.prog 146 #[.slice A L.length c,.agg #[F,G,H]] l λe w'=>∃A' c',e= .returned (.slice A' (fS L ⟨⟨F,G⟩,H⟩).length c')∧w'.ownsRow l.heap.size 108 3 (.slice A' (fS L ⟨⟨F,G⟩,H⟩).length c') (fS L ⟨⟨F,G⟩,H⟩).length ((fS L ⟨⟨F,G⟩,H⟩).flatMap idL)∧Below l.heap.size l w':=by
 obtain⟨i0,hi,bh,bi,ae⟩:=bx info_id;have af:Below l.heap.size l (l.alloc (.cells #[F,G,H] 108)):=(ag _ _).alloc (aa _) _;have ap:=hid af;have bj:=hid (an l (.cells #[F,G,H] 108));have aS:=hid (runs_any L A c F G H S (l.alloc (.cells #[F,G,H] 108)) hl aR (hR.below af) (λp hp=>(hG p hp).agr (Agr.below af)));obtain⟨R,ar⟩:∃R,R=fP ⟨⟨F,G⟩,H⟩ L:=⟨_,rfl⟩;obtain⟨Z,au⟩:∃Z,Z=fS L ⟨⟨F,G⟩,H⟩:=⟨_,rfl⟩;have HZ:=hid (show Z=sortI (gK R) by rw[au,ar];rfl);rw[<-au];rw[<-ar] at aS bf hh;have HH:=hid hh;clear hR hG af aR ar au hh;go_enter Tryz.func146,Tryz.ntmps146;go_upto_region 1 with fail;generalize hW:l.alloc (.cells #[F,G,H] 108)=w0 at *;clear hW
 go_upto_region 4 with(first
  |(refine lA bj az ?_)
  |(go_at_call 115;refine aS.o.mono ?_;rintro e w1 ⟨A1,c1,rfl,ah,aT⟩;have bk:=hid (elements9_any R A1 c1 _ w1 (by omega) HH.o (cT (z:=rn0) (λ_=>rfl) rfl ah));have av:=hid aT;clear ah aT)
  |(go_at_call 183;refine bk.o.mono ?_;rintro e w ⟨A2,c2,B,N,rfl,aU,aV,bG,ai,aW⟩;have aw:=hid aU;have bl:=hid aV;have bm:=hid ai;have ax:=hid aW;clear aU aV ai aW))
 go_loopw [6,7] (λo i wr=>∃(k:Nat) (A':Option Addr) (c' m:Nat) (M:List Gid),k<=B∧i= .int .i64 k∧o= .slice A' m c'∧m<=k∧Hid (m=M.length)∧Hid (M=(N.take k).foldl stepE [])∧Hid (wr.ownsRow w.heap.size 108 3 (.slice A' m c') m (M.flatMap idL))∧Hid (Below w.heap.size w wr)) (λo i _=>B-(RowKit.intOf i).toNat)
 case atStart=>exact⟨0,none,0,0,[],aq _,rfl,rfl,aa _,hid rfl,hid rfl,hid (aH w w.heap.size 108 3),hid (ag _ _)⟩
 case round=>
  obtain⟨k,A',c',m,M,hk,rfl,rfl,bJ,P,HM,HO,Y⟩:=hrel;by_cases aX:k<B
  ·have i1:(0:Int)<=(k:Int):=by omega
   have i2:(k:Int)<(B:Int):=by omega
   obtain⟨rb,rfl,-,aZ,ab⟩:=cZ (f:=eltL) (λ_=>rfl) aw.o bm.o aX elt0;have a0:((N.take (k+1)).foldl stepE [])=stepE M (N.getD k elt0):=by rw[HM.o];exact eU _ _ (by rw[<-aw.o];exact aX) elt0
   generalize N.getD k elt0=p at *;obtain⟨⟨⟨t,r⟩,n⟩,⟨⟨u,v⟩,i⟩,pc⟩:=p;have a1:=hid a0;have bn:=Y.o.size;have bF:m<=100000:=by omega
   have a2:=hid (show wr.rangeAt rb (k*7) [.int .i64 t,.int .i64 r,.int .i64 n] from bC (pre:=[]) (mid:=[.int .i64 t,.int .i64 r,.int .i64 n]) (post:=[.int .i64 u,.int .i64 v,.int .i64 i,.string pc]) (ct ab aZ Y.o));have a3:=hid (show((N.take (k+1)).foldl stepE [])=insB (λy:Gid=>Gid.lt ⟨⟨t,r⟩,n⟩ y) Gid.zero M ⟨⟨t,r⟩,n⟩ by rw[a1.o];rfl);clear a0 ab aZ
   go_upto_region 7 with(first
    |(refine lM a2 az ?_)
    |(at_builtin;refine cm _ rfl _ _ 123 rfl w.heap.size 108 i0 (.agg #[(0:Int),(0:Int),(0:Int)]) 3 24 eK hi bh bi ae rfl (by decide) (.slice A' m c') m _ rfl (by exact HO.o.alloc _) ⟨wr.heap.size,0,none⟩ 1 1 [.int .i64 t,.int .i64 r,.int .i64 n] rfl rfl (λj y h=>dH wr [.int .i64 t,.int .i64 r,.int .i64 n] 108 j y h) (fx (c:=#[.int .i64 t,.int .i64 r,.int .i64 n]) rfl) (by decide) (by unfold maxLen;omega) (by omega) (by simp;omega) (wr.heap.size+1) (by simp) ?_;intro g E w5 ay al ha bc;have a4:=hid ay;have bo:=hid ((Y.o.alloc bn _).grown al (by simp;omega) (λb hb=>(HO.o.lt b hb).1));clear ay al ha bc))
   go_upto_region 8 with fail;clear a2 HO Y a1 HM;have a5:slid M (⟨⟨t,r⟩,n⟩:Gid) m=M++[⟨⟨t,r⟩,n⟩]:=by rw[P.o];exact jB _ _
   have bq:=hid (show w5.ownsRow w.heap.size 108 3 (.slice (some ⟨g,0,none⟩) (m+1) E) (m+1) ((slid M (⟨⟨t,r⟩,n⟩:Gid) m).flatMap idL) by rw[a5,aK];exact a4.o);clear a5 a4;generalize w5=w6 at *;go_loopw [8] (λi wx=>∃(q:Nat),i= .int .i64 q∧q<=m∧Hid (ek (λy:Gid=>Gid.lt ⟨⟨t,r⟩,n⟩ y) .zero M q=ek (λy:Gid=>Gid.lt ⟨⟨t,r⟩,n⟩ y) .zero M M.length)∧Hid (wx.ownsRow w.heap.size 108 3 (.slice (some ⟨g,0,none⟩) (m+1) E) (m+1) ((slid M (⟨⟨t,r⟩,n⟩:Gid) q).flatMap idL))∧Hid (Below w.heap.size w wx)) (λi _=>(RowKit.intOf i).toNat)
   case atStart=>exact⟨m,rfl,aa _,hid (by rw[P.o]),bq,bo⟩
   case round=>
    obtain⟨q,rfl,hq,aA,T,aB⟩:=hrel;by_cases h0:0<q
    ·obtain⟨q,rfl⟩:∃p,q=p+1:=⟨q-1,by omega⟩;have aC:q+1<=M.length:=by rw[<-P.o];exact hq
     have am:m+1=(slid M (⟨⟨t,r⟩,n⟩:Gid) (q+1)).length:=by rw[eW,<-P.o]
     obtain⟨g3,e3,-,a6,Q⟩:=cZ (f:=idL) (λ_=>rfl) am T.o (k:=q) (by omega) .zero;cases e3;obtain⟨g4,e4,-,-,U⟩:=cZ (f:=idL) (λ_=>rfl) am T.o (k:=q+1) (by omega) .zero;cases e4;rw[jz aC] at Q;rw[kE aC] at U;have aD:=it (L:=M) (x:=(⟨⟨t,r⟩,n⟩:Gid)) (z:= .zero) aC;obtain⟨y,hy⟩:∃y,y=M.getD q .zero:=⟨_,rfl⟩;rw[<-hy] at Q aD;obtain⟨b2,aE⟩:∃b,b=(λy:Gid=>Gid.lt ⟨⟨t,r⟩,n⟩ y) y:=⟨_,rfl⟩;have a7:=hid (show(λy:Gid=>Gid.lt ⟨⟨t,r⟩,n⟩ y) (M.getD q .zero)=b2 by rw[<-hy,aE]);clear hy;obtain⟨⟨J,O⟩,B⟩:=y;have br:=hid (show wr.rangeAt g (q*3) [.int .i64 J,.int .i64 O,.int .i64 B] from Q);have bs:=hid (show wr.rangeAt g ((q+1)*3) [.int .i64 t,.int .i64 r,.int .i64 n] from U);have y0:=aj (w:=wr) (a:=⟨g,q*3,none⟩) (v:= .int .i64 J) (Q 0 _ rfl);have y1:=aj (w:=wr) (a:=⟨g,q*3+1,none⟩) (v:= .int .i64 O) (Q 1 _ rfl);have y2:=aj (w:=wr) (a:=⟨g,q*3+2,none⟩) (v:= .int .i64 B) (Q 2 _ rfl);have x0:=aj (w:=wr) (a:=⟨g,(q+1)*3,none⟩) (v:= .int .i64 t) (U 0 _ rfl);have x1:=aj (w:=wr) (a:=⟨g,(q+1)*3+1,none⟩) (v:= .int .i64 r) (U 1 _ rfl);have x2:=aj (w:=wr) (a:=⟨g,(q+1)*3+2,none⟩) (v:= .int .i64 n) (U 2 _ rfl);have bt:=hid aD;have k1:(0:Int)<(q:Int)+1:=by omega
     have k2:(0:Int)<=(q:Int):=by omega
     have k3:(q:Int)<(m:Int)+1:=by omega
     have k4:(q:Int)+1<(m:Int)+1:=by omega
     have k5:(0:Int)<=(q:Int)+1:=by omega
     have k6:IntKind.i64.wrap (q:Int)=(q:Int):=by rw[bH];omega
     have ac:=hid am;have a8:=λW=>gp t r n J O B W;obtain⟨zc,aF⟩:∃z,z=rcmpD ⟨⟨t,r⟩,n⟩ ⟨⟨J,O⟩,B⟩:=⟨_,rfl⟩;rw[<-aF] at a8;have ae:decide (0<=zc)= !b2:=by rw[aF,j0,aE]
     have bK:decide (zc<0)=b2:=by cases b2<;>simp at ae ⊢ <;>omega
     clear aF ae;have cA:=λd os=>ak (a8 (grow (redrawn wr d) os));clear Q U aE aD am;cases b2 with
     |false=>
      go_upto_region 8 with fail;refine rqb ?_
      repeat(any_goals(first|go_big_quiet_step (with_reducible exact cA _ _)|quiet_step (with_reducible exact cA _ _)))
      refine qz λI C=> ?_;have aG:=hid (show((N.take (k+1)).foldl stepE [])=slid M (⟨⟨t,r⟩,n⟩:Gid) (q+1) by rw[a3.o];unfold insB;rw[<-aA.o,gi (.inr ⟨q,rfl,a7.o⟩)]);have aI:=kO T C;have aJ:=bT aB C;go_wp2;go_roundw
      case rel=>exact⟨k+1,some ⟨g,0,none⟩,E,m+1,_,by omega,by go_num,rfl,by omega,ac,hid aG.o.symm,aI,aJ⟩
      case measure=>(simp[RowKit.intOf];omega)
     | true=>
      go_upto_region 8 with fail;refine rqb ?_
      repeat(any_goals(first|go_big_quiet_step (with_reducible exact cA _ _)|quiet_step (with_reducible exact cA _ _)))
      refine qz λI C=> ?_;have bd:=hid (show ek (λy:Gid=>Gid.lt ⟨⟨t,r⟩,n⟩ y) .zero M q=ek (λy:Gid=>Gid.lt ⟨⟨t,r⟩,n⟩ y) .zero M M.length by rw[<-aA.o,iL a7.o]);have aL:=hid (ct br.o a6 C);have aM:=hid (ct bs.o a6 C);have ad:=kO T C;have be:=bT aB C;clear y0 y1 y2 x0 x1 x2 cA T C;go_upto_region 10 with fail;obtain⟨V1,aN⟩:∃V,V=I.drew.setCells g ((q+1)*3) (#[.int .i64 J,.int .i64 O,.int .i64 B]:Array Value).toList:=⟨_,rfl⟩;have X:V1.ownsRow w.heap.size 108 3 (.slice (some ⟨g,0,none⟩) (m+1) E) (m+1) (((slid M (⟨⟨t,r⟩,n⟩:Gid) (q+1)).set (q+1) (⟨⟨J,O⟩,B⟩:Gid)).flatMap idL)∧I.drew.grownBy V1 (some g):=by rw[aN];exact eX (f:=idL) (λ_=>rfl) (by decide) ac.o (show I.drew.ownsRow _ _ _ _ _ _ from ad.o) (by omega) (⟨⟨J,O⟩,B⟩:Gid)
      obtain⟨V2,aQ⟩:∃V,V=V1.setCells g (q*3) (#[.int .i64 t,.int .i64 r,.int .i64 n]:Array Value).toList:=⟨_,rfl⟩;have ao:V2.ownsRow w.heap.size 108 3 (.slice (some ⟨g,0,none⟩) (m+1) E) (m+1) ((((slid M (⟨⟨t,r⟩,n⟩:Gid) (q+1)).set (q+1) (⟨⟨J,O⟩,B⟩:Gid)).set q (⟨⟨t,r⟩,n⟩:Gid)).flatMap idL)∧V1.grownBy V2 (some g):=by rw[aQ];exact eX (f:=idL) (λ_=>rfl) (by decide) (by rw[dj];exact ac.o) X.1 (by omega) (⟨⟨t,r⟩,n⟩:Gid)
      obtain⟨g5,e5,a9⟩:=eJ (show I.drew.ownsRow _ _ _ _ _ _ from ad.o) (k:=q+1) (by omega);cases e5;obtain⟨g6,e6,ba⟩:=eJ X.1 (k:=q) (by omega);cases e6;have bu:=hid ao.1;have bv:=hid (show I.heap.size<=V2.heap.size∧(Below w.heap.size w I->w.heap.size<=g->Below w.heap.size w V2) from⟨aP (show I.drew.heap.size<=V1.heap.size from X.2.size) ao.2.size,λhb hl=>(hb.drew.grown X.2 (by exact hb.size) (λb e=>by cases e;exact hl)).grown ao.2 (aP hb.size (show I.drew.heap.size<=V1.heap.size from X.2.size)) (λb e=>by cases e;exact hl)⟩);have bw:=hid aN;have bz:=hid aQ;have bA:=hid a9;have bB:=hid ba;have bD:=hid (show(#[.int .i64 J,.int .i64 O,.int .i64 B]:Array Value).all (·.oneCell')=true by rw[<-cv];rfl);have bE:=hid (show(#[.int .i64 t,.int .i64 r,.int .i64 n]:Array Value).all (·.oneCell')=true by rw[<-cv];rfl);clear X ao aN aQ a9 ba;refine aY (S:=λ_=>True) (by kernel_rfl) ?_
      try(change wpAnyH _ _ _ _ _ _ _ _ (World.drew _))
      refine tk 0 (.slice (some ⟨g,0,none⟩) (m+1) E) (trivial) ?_;go_simp;refine tk 1 (.int .i64 ((q:Int)+1)) (trivial) ?_;go_simp;refine tk 2 (.slice (some ⟨g,0,none⟩) (m+1) E) (trivial) ?_;go_simp;refine tk 3 (.int .i64 ((q:Int)+1)) (trivial) ?_;go_simp;refine tk 4 (.int .i64 (q:Int)) (trivial) ?_;go_simp;refine tk 5 (.slice (some ⟨g,0,none⟩) (m+1) E) (trivial) ?_;go_simp;refine tk 6 (.int .i64 ((q:Int)+1)) (trivial) ?_;go_simp;refine tk 7 (.int .i64 (q:Int)) (trivial) ?_;go_simp;refine tk 8 (.pointer (some ⟨g,q*3,none⟩)) (trivial) ?_;go_simp;refine tk 10 (.slice (some ⟨g,0,none⟩) (m+1) E) (trivial) ?_;go_simp;refine tk 11 (.int .i64 ((q:Int)+1)) (trivial) ?_;go_simp;refine tk 12 (.pointer (some ⟨g,(q+1)*3,none⟩)) (trivial) ?_;go_simp;refine dJ (rs:=[9,13]) (by kernel_rfl) (by simp) ?_;refine bg rfl (λK D=> ?_) (bg rfl (λK D=> ?_) dp)
      focus
       refine bI rfl _ _ rfl g (q*3) rfl [.int .i64 J,.int .i64 O,.int .i64 B] _ (show I.drew.rangeAt _ _ _ from aL.o) az rfl (by kernel_rfl) ?_;refine D.out _ _ (trivial) (λ_=> ?_);clear D K;refine rd1 13 λK D=> ?_;refine bI rfl _ _ rfl g ((q+1)*3) rfl [.int .i64 t,.int .i64 r,.int .i64 n] _ (show I.drew.rangeAt _ _ _ from aM.o) az rfl (by kernel_rfl) ?_;refine D.out _ _ (trivial) (λ_=> ?_);clear D K
      rotate_left
      focus
       refine bI rfl _ _ rfl g ((q+1)*3) rfl [.int .i64 t,.int .i64 r,.int .i64 n] _ (show I.drew.rangeAt _ _ _ from aM.o) az rfl (by kernel_rfl) ?_;refine D.out _ _ (trivial) (λ_=> ?_);clear D K;refine rd1 9 λK D=> ?_;refine bI rfl _ _ rfl g (q*3) rfl [.int .i64 J,.int .i64 O,.int .i64 B] _ (show I.drew.rangeAt _ _ _ from aL.o) az rfl (by kernel_rfl) ?_;refine D.out _ _ (trivial) (λ_=> ?_);clear D K
      all_goals
       refine tk 14 (.pointer (some ⟨g,(q+1)*3,none⟩)) (trivial) ?_;go_simp;refine rd1 15 λK D=> ?_;refine cY rfl _ _ _ rfl g ((q+1)*3) #[.int .i64 J,.int .i64 O,.int .i64 B] (by rfl) (by rfl) bA.o (by kernel_rfl) bD.o ?_;rw[<-bw.o];refine D.out _ _ (trivial) (λ_=> ?_);clear D K;refine tk 16 (.pointer (some ⟨g,q*3,none⟩)) (trivial) ?_;go_simp;refine rd1 17 λK D=> ?_;refine cY rfl _ _ _ rfl g (q*3) #[.int .i64 t,.int .i64 r,.int .i64 n] (by rfl) (by rfl) bB.o (by kernel_rfl) bE.o ?_;rw[<-bz.o];refine D.out _ _ (trivial) (λ_=> ?_);clear D K;refine bp (by kernel_rfl) ?_ _;go_simp;go_wp2;go_roundw
       case rel=>exact⟨q,by go_num,by omega,bd,hid (by rw[<-bt.o];exact bu.o),hid (bv.o.2 be.o (ad.o.lt g rfl).1)⟩
       case measure=>(simp[RowKit.intOf];try omega)
    ·obtain rfl:q=0:=by omega
     go_upto_region 8 with fail;refine rqb ?_
     repeat(any_goals(first|go_big_quiet_step (fail)|quiet_step (fail)))
     refine qz λI C=> ?_;have aG:=hid (show((N.take (k+1)).foldl stepE [])=slid M (⟨⟨t,r⟩,n⟩:Gid) 0 by rw[a3.o];unfold insB;rw[<-aA.o];rfl);have ac:=hid (show m+1=(slid M (⟨⟨t,r⟩,n⟩:Gid) 0).length by rw[eW,<-P.o]);have aI:=kO T C;have aJ:=bT aB C;go_wp2;go_roundw
     case rel=>exact⟨k+1,some ⟨g,0,none⟩,E,m+1,_,by omega,by go_num,rfl,by omega,ac,hid aG.o.symm,aI,aJ⟩
     case measure=>(simp[RowKit.intOf];omega)
  ·obtain rfl:k=B:=by omega
   have i2:¬(k:Int)<(k:Int):=by omega
   have bb:=hid (show M=Z by rw[HZ.o,<-bl.o,<-stepE_map];have h9:=HM.o;rw[aw.o,aO] at h9;exact h9);go_wp2;go_ret;refine⟨A',c',by rw[<-bb.o,<-P.o];rfl,?_,ap.o.trans ((av.o.trans ((ax.o.trans (Y.o.mono ax.o.size)).mono av.o.size)).mono ap.o.size)⟩;rw[<-bb.o,<-P.o];exact iK HO.o (aP ap.o.size (aP av.o.size ax.o.size))
end
end Go.Proofs.YtkhmicndehlneaaGreatDoor
