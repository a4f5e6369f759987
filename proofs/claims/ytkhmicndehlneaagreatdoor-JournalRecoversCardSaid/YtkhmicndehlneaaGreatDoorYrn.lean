/- Part 14 of the walks and plain laws that this claim uses, joined. Conditions: as each theorem states. -/
import Derived.Test.YtkhmicndehlneaaGreatDoorYrm
namespace Go.Proofs.YtkhmicndehlneaaGreatDoor
set_option maxRecDepth 100000
set_option maxHeartbeats 16000000
set_option linter.unusedVariables false
section
section
open Go.RowKit Go.Lib Go.Sort
attribute [local go_sem ↓] Go.wp_at_zero Go.wp_at_succ
def refV (g:Gst) (o:Gop) (k:Nat):Int:=if (dL g o k && dZ o)=true then (eY o:Int) else -1
theorem ej {g:Gst} {o:Gop} {k:Nat} (h:(dL g o k && dZ o)=false):refV g o k= -1:=by unfold refV;rw[h];rfl
theorem refV_yes {g:Gst} {o:Gop} {k:Nat} (h:(dL g o k && dZ o)=true):refV g o k=(eY o:Int):=by unfold refV;rw[h];rfl
theorem jj {W:World} {b:Nat} {T:TypeId} {cs:List Value} (h:W.heap[b]? =some (.cells cs.toArray T (0,0))):W.rangeAt b 0 cs:=λj v hv=>by
 rw[cj,aG _ _ _ _ _ _ h]
 simpa using hv
theorem refop_0 (j m:Int) (X:Int) (H:Option Addr) (I J:Nat) (Y Z:Int) (oA:Option Addr) (on oc:Nat) (k:Nat) (n o p q r s:Int) (c:ByteArray) (h:Bool) (f:List Gst) (i t u x y z:Int) (g:ByteArray) (a:List Gid) (E:Option Addr) (L:Nat) (F:Option Addr) (M:Nat) (S:Nat->Prop) (w:World) (hn:c.size<=9223372036854775807) (ae:f.length<=9223372036854775807) (af:a.length<=9223372036854775807) (hD:StsS w S E f) (hE:IdsS w S F a):
  Calls Tryz.prog 104 #[.agg #[j,m,X,.slice H I J,Y,Z,.slice oA on oc],.agg #[(0:Int),n,o,p,q,r,s,c,h,.slice E f.length L,i,t,u,x,y,z,g,.slice F a.length M],.int .i64 k] w λe w'=>e= .returned (.int .i64 (refV ⟨j,m⟩ (⟨0,⟨⟨n,o⟩,p⟩,⟨⟨q,r⟩,s⟩,c,h,f,⟨⟨i,t⟩,u⟩,⟨⟨x,y⟩,z⟩,g,a⟩:Gop) k))∧Below w.heap.size w w':=by
 obtain⟨C,G⟩:∃v,v=refV ⟨j,m⟩ (⟨0,⟨⟨n,o⟩,p⟩,⟨⟨q,r⟩,s⟩,c,h,f,⟨⟨i,t⟩,u⟩,⟨⟨x,y⟩,z⟩,g,a⟩:Gop) k:=⟨_,rfl⟩;rw[<-G];obtain⟨bb,Q⟩:∃b,b=dZ (⟨0,⟨⟨n,o⟩,p⟩,⟨⟨q,r⟩,s⟩,c,h,f,⟨⟨i,t⟩,u⟩,⟨⟨x,y⟩,z⟩,g,a⟩:Gop):=⟨_,rfl⟩;have ab:=hid Q
 have ac:=hid (show ∀W,Calls Tryz.prog 160 #[.agg #[(0:Int),n,o,p,q,r,s,c,h,.slice E f.length L,i,t,u,x,y,z,g,.slice F a.length M],true,true,false,false,false] W λe w'=>e= .returned (.bool bb)∧Below W.heap.size W w' from λW=>by
  refine(refbare_0 0 n o p q r s c h E f.length L i t u x y z g F a.length M W).mono ?_;rintro e w' ⟨rfl,hB⟩;refine⟨?_,hB⟩;congr 2;rw[Q]
  simp[dZ,Bool.and_assoc])
 have HK:Hid (dL ⟨j,m⟩ (⟨0,⟨⟨n,o⟩,p⟩,⟨⟨q,r⟩,s⟩,c,h,f,⟨⟨i,t⟩,u⟩,⟨⟨x,y⟩,z⟩,g,a⟩:Gop) k=(Gid.eqb ⟨⟨n,o⟩,p⟩ ⟨⟨j,m⟩,(k:Int)⟩ && dK ⟨j,m⟩ ⟨⟨q,r⟩,s⟩ k && eC c)):=hid (by simp[dL]);have ah:Hid ((eY (⟨0,⟨⟨n,o⟩,p⟩,⟨⟨q,r⟩,s⟩,c,h,f,⟨⟨i,t⟩,u⟩,⟨⟨x,y⟩,z⟩,g,a⟩:Gop):Int)=1):=hid (by simp[eY]);have A:=hid G;clear G Q;go_enter Tryz.func104,kQ;go_upto_region 2 with fail;generalize hW:(((w.alloc (.cells #[j,m,X,.slice H I J,Y,Z,.slice oA on oc] 45)).alloc (.cells #[(0:Int),n,o,p,q,r,s,c,h,.slice E f.length L,i,t,u,x,y,z,g,.slice F a.length M] 125)).alloc (.cells #[j,m,.int .i64 k] 108))=W;have D:=hid (show W.heap[w.heap.size]? =some (.cells #[j,m,X,.slice H I J,Y,Z,.slice oA on oc] 45 (0,0)) by rw[<-hW];exact(ax _ _ _ (by simp;omega)).trans ((ax _ _ _ (by simp)).trans (an _ _)));have B:=hid (show W.heap[w.heap.size+1]? =some (.cells #[(0:Int),n,o,p,q,r,s,c,h,.slice E f.length L,i,t,u,x,y,z,g,.slice F a.length M] 125 (0,0)) by rw[<-hW];exact(ax _ _ _ (by simp)).trans (cn _ _ (by simp)));have HJ:=hid (show W.heap[w.heap.size+2]? =some (.cells #[j,m,.int .i64 k] 108 (0,0)) by rw[<-hW];exact cn _ _ (by simp))
 have R:=hid (show Below w.heap.size w W by rw[<-hW];exact(((ag _ _).alloc (aa _) _).alloc (by simp) _).alloc (by simp;omega) _);clear hW;have r0:=cw0 B.o;go_upto_region 4 with fail;clear r0;have ad:=R.o;have x1:=rg1 B.o;have x2:=rg2 B.o;have x3:=rg3 B.o;have x4:=rg4 B.o;have x5:=rg5 B.o;have x6:=rg6 B.o;have x7:=rg7 B.o;have y0:=rg0 D.o;have y1:=rg1 D.o;have y2:=rg2 D.o;have y3:=rg3 D.o;have y4:=rg4 D.o;have y5:=rg5 D.o;have y6:=rg6 D.o;have z0:=rg0 HJ.o;have z1:=rg1 HJ.o;have z2:=rg2 HJ.o;obtain⟨T,K⟩:∃l:List Value,l=[.int .i64 0,.int .i64 n,.int .i64 o,.int .i64 p,.int .i64 q,.int .i64 r,.int .i64 s,.string c,.bool h,.slice E f.length L,.int .i64 i,.int .i64 t,.int .i64 u,.int .i64 x,.int .i64 y,.int .i64 z,.string g,.slice F a.length M]:=⟨_,rfl⟩;have aj:=hid K;have al:=hid (eO (show W.rangeAt (w.heap.size+1) 0 T by rw[K];exact jj B.o));have ao:=hid (show(Tryz.prog.info? 125).map (·.size)=some T.length by rw[K];kernel_rfl);clear K;have U:=λd V=>ak (iI ⟨j,m⟩ ⟨X,H,I,J,Y,Z,oA,on,oc⟩ ⟨⟨q,r⟩,s⟩ k (grow (redrawn W d) V));have cN:=λd V=>Calls.regrown_same (jO c (grow (redrawn W d) V) hn);have cB:=λd V=>ak (ac.o (grow (redrawn W d) V));simp only[gxV,idV] at U;clear ad hD hE ac hn ae af D B HJ;cases N:Gid.eqb ⟨⟨n,o⟩,p⟩ ⟨⟨j,m⟩,(k:Int)⟩
 case' false=>
  have he:=eN n o p j m k false N;obtain rfl:C= -1:=by rw[A.o];exact ej (by rw[HK.o,N];simp)
  clear N
 case' true=>
  have he:=eN n o p j m k true N;have H0:=hid N;clear N;cases O:dK ⟨j,m⟩ ⟨⟨q,r⟩,s⟩ k
  case' false=>
   rw[O] at U;obtain rfl:C= -1:=by rw[A.o];exact ej (by rw[HK.o,H0.o,O];simp)
   clear O
  case' true=>
   rw[O] at U;have H1:=hid O;clear O;cases P:eC c
   case' false=>
    rw[P] at cN;obtain rfl:C= -1:=by rw[A.o];exact ej (by rw[HK.o,H0.o,H1.o,P];simp)
    clear P
   case' true=>
    rw[P] at cN;have H2:=hid P;clear P;cases bb
    case' false=>
     obtain rfl:C= -1:=by rw[A.o];exact ej (by rw[<-ab.o];simp)
    case' true=>
     obtain rfl:C=1:=by rw[A.o,refV_yes (by rw[<-ab.o,HK.o,H0.o,H1.o,H2.o];simp),ah.o]
 all_goals
  refine ap ?_
  repeat(any_goals(first|(refine bn rfl _ _ rfl (w.heap.size+1) 0 rfl T _ al.o am rfl ao.o ?_;rw[aj.o])|go_big_quiet_step (first|with_reducible exact U _ _|with_reducible exact cN _ _|with_reducible exact cB _ _)|quiet_step (first|with_reducible exact U _ _|with_reducible exact cN _ _|with_reducible exact cB _ _)))
  refine qz λwq aq=> ?_;go_wp2;go_ret;exact⟨rfl,R.o.trans (aq.mono R.o.size)⟩
theorem refop_1 (j m:Int) (R:Int) (C:Option Addr) (D E:Nat) (T U:Int) (V:Option Addr) (X Y:Nat) (k:Nat) (n o p q r s:Int) (c:ByteArray) (h:Bool) (f:List Gst) (i t u x y z:Int) (g:ByteArray) (a:List Gid) (H:Option Addr) (M:Nat) (I:Option Addr) (N:Nat) (S:Nat->Prop) (w:World) (hn:c.size<=9223372036854775807) (ah:f.length<=9223372036854775807) (aj:a.length<=9223372036854775807) (hD:StsS w S H f) (hE:IdsS w S I a):
  Calls Tryz.prog 104 #[.agg #[j,m,R,.slice C D E,T,U,.slice V X Y],.agg #[(1:Int),n,o,p,q,r,s,c,h,.slice H f.length M,i,t,u,x,y,z,g,.slice I a.length N],.int .i64 k] w λe w'=>e= .returned (.int .i64 (refV ⟨j,m⟩ (⟨1,⟨⟨n,o⟩,p⟩,⟨⟨q,r⟩,s⟩,c,h,f,⟨⟨i,t⟩,u⟩,⟨⟨x,y⟩,z⟩,g,a⟩:Gop) k))∧Below w.heap.size w w':=by
 obtain⟨F,J⟩:∃v,v=refV ⟨j,m⟩ (⟨1,⟨⟨n,o⟩,p⟩,⟨⟨q,r⟩,s⟩,c,h,f,⟨⟨i,t⟩,u⟩,⟨⟨x,y⟩,z⟩,g,a⟩:Gop) k:=⟨_,rfl⟩;rw[<-J];obtain⟨bb,Z⟩:∃b,b=dZ (⟨1,⟨⟨n,o⟩,p⟩,⟨⟨q,r⟩,s⟩,c,h,f,⟨⟨i,t⟩,u⟩,⟨⟨x,y⟩,z⟩,g,a⟩:Gop):=⟨_,rfl⟩;have ad:=hid Z
 have ae:=hid (show ∀W,Calls Tryz.prog 160 #[.agg #[(1:Int),n,o,p,q,r,s,c,h,.slice H f.length M,i,t,u,x,y,z,g,.slice I a.length N],true,false,false,false,false] W λe w'=>e= .returned (.bool bb)∧Below W.heap.size W w' from λW=>by
  refine(refbare_1 1 n o p q r s c h H f.length M i t u x y z g I a.length N W).mono ?_;rintro e w' ⟨rfl,hB⟩;refine⟨?_,hB⟩;congr 2;rw[Z]
  simp[dZ,Bool.and_assoc])
 have HK:Hid (dL ⟨j,m⟩ (⟨1,⟨⟨n,o⟩,p⟩,⟨⟨q,r⟩,s⟩,c,h,f,⟨⟨i,t⟩,u⟩,⟨⟨x,y⟩,z⟩,g,a⟩:Gop) k=(de ⟨j,m⟩ ⟨⟨n,o⟩,p⟩ k && dK ⟨j,m⟩ ⟨⟨q,r⟩,s⟩ k && eC c)):=hid (by simp[dL]);have al:Hid ((eY (⟨1,⟨⟨n,o⟩,p⟩,⟨⟨q,r⟩,s⟩,c,h,f,⟨⟨i,t⟩,u⟩,⟨⟨x,y⟩,z⟩,g,a⟩:Gop):Int)=0):=hid (by simp[eY]);have A:=hid J;clear J Z;go_enter Tryz.func104,kQ;go_upto_region 2 with fail;generalize hW:(((w.alloc (.cells #[j,m,R,.slice C D E,T,U,.slice V X Y] 45)).alloc (.cells #[(1:Int),n,o,p,q,r,s,c,h,.slice H f.length M,i,t,u,x,y,z,g,.slice I a.length N] 125)).alloc (.cells #[j,m,.int .i64 k] 108))=W;have G:=hid (show W.heap[w.heap.size]? =some (.cells #[j,m,R,.slice C D E,T,U,.slice V X Y] 45 (0,0)) by rw[<-hW];exact(ax _ _ _ (by simp;omega)).trans ((ax _ _ _ (by simp)).trans (an _ _)));have B:=hid (show W.heap[w.heap.size+1]? =some (.cells #[(1:Int),n,o,p,q,r,s,c,h,.slice H f.length M,i,t,u,x,y,z,g,.slice I a.length N] 125 (0,0)) by rw[<-hW];exact(ax _ _ _ (by simp)).trans (cn _ _ (by simp)));have HJ:=hid (show W.heap[w.heap.size+2]? =some (.cells #[j,m,.int .i64 k] 108 (0,0)) by rw[<-hW];exact cn _ _ (by simp))
 have ab:=hid (show Below w.heap.size w W by rw[<-hW];exact(((ag _ _).alloc (aa _) _).alloc (by simp) _).alloc (by simp;omega) _);clear hW;have r0:=cw0 B.o;go_upto_region 7 with fail;clear r0;have af:=ab.o;have x1:=rg1 B.o;have x2:=rg2 B.o;have x3:=rg3 B.o;have x4:=rg4 B.o;have x5:=rg5 B.o;have x6:=rg6 B.o;have x7:=rg7 B.o;have y0:=rg0 G.o;have y1:=rg1 G.o;have y2:=rg2 G.o;have y3:=rg3 G.o;have y4:=rg4 G.o;have y5:=rg5 G.o;have y6:=rg6 G.o;obtain⟨ac,L⟩:∃l:List Value,l=[.int .i64 1,.int .i64 n,.int .i64 o,.int .i64 p,.int .i64 q,.int .i64 r,.int .i64 s,.string c,.bool h,.slice H f.length M,.int .i64 i,.int .i64 t,.int .i64 u,.int .i64 x,.int .i64 y,.int .i64 z,.string g,.slice I a.length N]:=⟨_,rfl⟩;have ao:=hid L;have aq:=hid (eO (show W.rangeAt (w.heap.size+1) 0 ac by rw[L];exact jj B.o));have au:=hid (show(Tryz.prog.info? 125).map (·.size)=some ac.length by rw[L];kernel_rfl);clear L;have cA:=λd K=>ak (fM ⟨j,m⟩ ⟨R,C,D,E,T,U,V,X,Y⟩ ⟨⟨n,o⟩,p⟩ k (grow (redrawn W d) K));have cP:=λd K=>ak (iI ⟨j,m⟩ ⟨R,C,D,E,T,U,V,X,Y⟩ ⟨⟨q,r⟩,s⟩ k (grow (redrawn W d) K));have cN:=λd K=>Calls.regrown_same (jO c (grow (redrawn W d) K) hn);have cB:=λd K=>ak (ae.o (grow (redrawn W d) K));simp only[gxV,idV] at cA cP
 clear af hD hE ae hn ah aj G B HJ;cases O:de ⟨j,m⟩ ⟨⟨n,o⟩,p⟩ k
 case' false=>
  rw[O] at cA;obtain rfl:F= -1:=by rw[A.o];exact ej (by rw[HK.o,O];simp)
  clear O
 case' true=>
  rw[O] at cA;have H0:=hid O;clear O;cases P:dK ⟨j,m⟩ ⟨⟨q,r⟩,s⟩ k
  case' false=>
   rw[P] at cP;obtain rfl:F= -1:=by rw[A.o];exact ej (by rw[HK.o,H0.o,P];simp)
   clear P
  case' true=>
   rw[P] at cP;have H1:=hid P;clear P;cases Q:eC c
   case' false=>
    rw[Q] at cN;obtain rfl:F= -1:=by rw[A.o];exact ej (by rw[HK.o,H0.o,H1.o,Q];simp)
    clear Q
   case' true=>
    rw[Q] at cN;have H2:=hid Q;clear Q;cases bb
    case' false=>
     obtain rfl:F= -1:=by rw[A.o];exact ej (by rw[<-ad.o];simp)
    case' true=>
     obtain rfl:F=0:=by rw[A.o,refV_yes (by rw[<-ad.o,HK.o,H0.o,H1.o,H2.o];simp),al.o]
 all_goals
  refine ap ?_
  repeat(any_goals(first|(refine bn rfl _ _ rfl (w.heap.size+1) 0 rfl ac _ aq.o am rfl au.o ?_;rw[ao.o])|go_big_quiet_step (first|with_reducible exact cA _ _|with_reducible exact cP _ _|with_reducible exact cN _ _|with_reducible exact cB _ _)|quiet_step (first|with_reducible exact cA _ _|with_reducible exact cP _ _|with_reducible exact cN _ _|with_reducible exact cB _ _)))
  refine qz λwq av=> ?_;go_wp2;go_ret;exact⟨rfl,ab.o.trans (av.mono ab.o.size)⟩
theorem refop_2 (j m:Int) (R:Int) (B:Option Addr) (C D:Nat) (T U:Int) (V:Option Addr) (X Y:Nat) (k:Nat) (n o p q r s:Int) (f:ByteArray) (h:Bool) (c:List Gst) (i t u x y z:Int) (g:ByteArray) (a:List Gid) (E:Option Addr) (G:Nat) (H:Option Addr) (N:Nat) (S:Nat->Prop) (w:World) (hn:f.size<=9223372036854775807) (ad:c.length<=9223372036854775807) (ah:a.length<=9223372036854775807) (hD:StsS w S E c) (hE:IdsS w S H a):
  Calls Tryz.prog 104 #[.agg #[j,m,R,.slice B C D,T,U,.slice V X Y],.agg #[(2:Int),n,o,p,q,r,s,f,h,.slice E c.length G,i,t,u,x,y,z,g,.slice H a.length N],.int .i64 k] w λe w'=>e= .returned (.int .i64 (refV ⟨j,m⟩ (⟨2,⟨⟨n,o⟩,p⟩,⟨⟨q,r⟩,s⟩,f,h,c,⟨⟨i,t⟩,u⟩,⟨⟨x,y⟩,z⟩,g,a⟩:Gop) k))∧Below w.heap.size w w':=by
 obtain⟨L,I⟩:∃v,v=refV ⟨j,m⟩ (⟨2,⟨⟨n,o⟩,p⟩,⟨⟨q,r⟩,s⟩,f,h,c,⟨⟨i,t⟩,u⟩,⟨⟨x,y⟩,z⟩,g,a⟩:Gop) k:=⟨_,rfl⟩;rw[<-I];obtain⟨bb,Z⟩:∃b,b=dZ (⟨2,⟨⟨n,o⟩,p⟩,⟨⟨q,r⟩,s⟩,f,h,c,⟨⟨i,t⟩,u⟩,⟨⟨x,y⟩,z⟩,g,a⟩:Gop):=⟨_,rfl⟩;have ae:=hid Z
 have af:=hid (show ∀W,Calls Tryz.prog 160 #[.agg #[(2:Int),n,o,p,q,r,s,f,h,.slice E c.length G,i,t,u,x,y,z,g,.slice H a.length N],false,false,true,false,false] W λe w'=>e= .returned (.bool bb)∧Below W.heap.size W w' from λW=>by
  refine(refbare_2 2 n o p q r s f h E c.length G i t u x y z g H a.length N W).mono ?_;rintro e w' ⟨rfl,hB⟩;refine⟨?_,hB⟩;congr 2;rw[Z]
  simp[dZ,Bool.and_assoc])
 have HK:Hid (dL ⟨j,m⟩ (⟨2,⟨⟨n,o⟩,p⟩,⟨⟨q,r⟩,s⟩,f,h,c,⟨⟨i,t⟩,u⟩,⟨⟨x,y⟩,z⟩,g,a⟩:Gop) k=(de ⟨j,m⟩ ⟨⟨n,o⟩,p⟩ k && iq ⟨j,m⟩ c)):=hid (by simp[dL]);have aj:Hid ((eY (⟨2,⟨⟨n,o⟩,p⟩,⟨⟨q,r⟩,s⟩,f,h,c,⟨⟨i,t⟩,u⟩,⟨⟨x,y⟩,z⟩,g,a⟩:Gop):Int)=0):=hid (by simp[eY]);have A:=hid I;clear I Z;go_enter Tryz.func104,kQ;go_upto_region 2 with fail;generalize hW:(((w.alloc (.cells #[j,m,R,.slice B C D,T,U,.slice V X Y] 45)).alloc (.cells #[(2:Int),n,o,p,q,r,s,f,h,.slice E c.length G,i,t,u,x,y,z,g,.slice H a.length N] 125)).alloc (.cells #[j,m,.int .i64 k] 108))=W;have F:=hid (show W.heap[w.heap.size]? =some (.cells #[j,m,R,.slice B C D,T,U,.slice V X Y] 45 (0,0)) by rw[<-hW];exact(ax _ _ _ (by simp;omega)).trans ((ax _ _ _ (by simp)).trans (an _ _)));have J:=hid (show W.heap[w.heap.size+1]? =some (.cells #[(2:Int),n,o,p,q,r,s,f,h,.slice E c.length G,i,t,u,x,y,z,g,.slice H a.length N] 125 (0,0)) by rw[<-hW];exact(ax _ _ _ (by simp)).trans (cn _ _ (by simp)));have HJ:=hid (show W.heap[w.heap.size+2]? =some (.cells #[j,m,.int .i64 k] 108 (0,0)) by rw[<-hW];exact cn _ _ (by simp))
 have ab:=hid (show Below w.heap.size w W by rw[<-hW];exact(((ag _ _).alloc (aa _) _).alloc (by simp) _).alloc (by simp;omega) _);clear hW;have r0:=cw0 J.o;go_upto_region 10 with fail;clear r0;have K:=ab.o;have x1:=rg1 J.o;have x2:=rg2 J.o;have x3:=rg3 J.o;have x9:=rg9 J.o;have y0:=rg0 F.o;have y1:=rg1 F.o;have y2:=rg2 F.o;have y3:=rg3 F.o;have y4:=rg4 F.o;have y5:=rg5 F.o;have y6:=rg6 F.o;obtain⟨ac,M⟩:∃l:List Value,l=[.int .i64 2,.int .i64 n,.int .i64 o,.int .i64 p,.int .i64 q,.int .i64 r,.int .i64 s,.string f,.bool h,.slice E c.length G,.int .i64 i,.int .i64 t,.int .i64 u,.int .i64 x,.int .i64 y,.int .i64 z,.string g,.slice H a.length N]:=⟨_,rfl⟩;have al:=hid M;have ao:=hid (eO (show W.rangeAt (w.heap.size+1) 0 ac by rw[M];exact jj J.o));have aq:=hid (show(Tryz.prog.info? 125).map (·.size)=some ac.length by rw[M];kernel_rfl);clear M;have cA:=λd O=>ak (fM ⟨j,m⟩ ⟨R,B,C,D,T,U,V,X,Y⟩ ⟨⟨n,o⟩,p⟩ k (grow (redrawn W d) O));have cD:=λd O=>ak (refdots_any ⟨j,m⟩ ⟨R,B,C,D,T,U,V,X,Y⟩ E G c S (grow (redrawn W d) O) ad (hD.agr (Agr.below (K.trans ((bL W d O).mono K.size)))));have cB:=λd O=>ak (af.o (grow (redrawn W d) O));simp only[gxV,idV] at cA cD;clear K hD hE af hn ad ah F J HJ;cases P:de ⟨j,m⟩ ⟨⟨n,o⟩,p⟩ k
 case' false=>
  rw[P] at cA;obtain rfl:L= -1:=by rw[A.o];exact ej (by rw[HK.o,P];simp)
  clear P
 case' true=>
  rw[P] at cA;have H0:=hid P;clear P;cases Q:iq ⟨j,m⟩ c
  case' false=>
   rw[Q] at cD;obtain rfl:L= -1:=by rw[A.o];exact ej (by rw[HK.o,H0.o,Q];simp)
   clear Q
  case' true=>
   rw[Q] at cD;have H1:=hid Q;clear Q;cases bb
   case' false=>
    obtain rfl:L= -1:=by rw[A.o];exact ej (by rw[<-ae.o];simp)
   case' true=>
    obtain rfl:L=0:=by rw[A.o,refV_yes (by rw[<-ae.o,HK.o,H0.o,H1.o];simp),aj.o]
 all_goals
  refine ap ?_
  repeat(any_goals(first|(refine bn rfl _ _ rfl (w.heap.size+1) 0 rfl ac _ ao.o am rfl aq.o ?_;rw[al.o])|go_big_quiet_step (first|with_reducible exact cA _ _|with_reducible exact cD _ _|with_reducible exact cB _ _)|quiet_step (first|with_reducible exact cA _ _|with_reducible exact cD _ _|with_reducible exact cB _ _)))
  refine qz λwq au=> ?_;go_wp2;go_ret;exact⟨rfl,ab.o.trans (au.mono ab.o.size)⟩
theorem refop_4 (j m:Int) (R:Int) (B:Option Addr) (C D:Nat) (T U:Int) (V:Option Addr) (X Y:Nat) (k:Nat) (n o p q r s:Int) (f:ByteArray) (h:Bool) (c:List Gst) (i t u x y z:Int) (g:ByteArray) (a:List Gid) (G:Option Addr) (N:Nat) (E:Option Addr) (H:Nat) (S:Nat->Prop) (w:World) (hn:f.size<=9223372036854775807) (ah:c.length<=9223372036854775807) (ad:a.length<=9223372036854775807) (hD:StsS w S G c) (hE:IdsS w S E a):
  Calls Tryz.prog 104 #[.agg #[j,m,R,.slice B C D,T,U,.slice V X Y],.agg #[(4:Int),n,o,p,q,r,s,f,h,.slice G c.length N,i,t,u,x,y,z,g,.slice E a.length H],.int .i64 k] w λe w'=>e= .returned (.int .i64 (refV ⟨j,m⟩ (⟨4,⟨⟨n,o⟩,p⟩,⟨⟨q,r⟩,s⟩,f,h,c,⟨⟨i,t⟩,u⟩,⟨⟨x,y⟩,z⟩,g,a⟩:Gop) k))∧Below w.heap.size w w':=by
 obtain⟨L,I⟩:∃v,v=refV ⟨j,m⟩ (⟨4,⟨⟨n,o⟩,p⟩,⟨⟨q,r⟩,s⟩,f,h,c,⟨⟨i,t⟩,u⟩,⟨⟨x,y⟩,z⟩,g,a⟩:Gop) k:=⟨_,rfl⟩;rw[<-I];obtain⟨bb,Z⟩:∃b,b=dZ (⟨4,⟨⟨n,o⟩,p⟩,⟨⟨q,r⟩,s⟩,f,h,c,⟨⟨i,t⟩,u⟩,⟨⟨x,y⟩,z⟩,g,a⟩:Gop):=⟨_,rfl⟩;have ae:=hid Z
 have af:=hid (show ∀W,Calls Tryz.prog 160 #[.agg #[(4:Int),n,o,p,q,r,s,f,h,.slice G c.length N,i,t,u,x,y,z,g,.slice E a.length H],false,false,false,false,true] W λe w'=>e= .returned (.bool bb)∧Below W.heap.size W w' from λW=>by
  refine(refbare_4 4 n o p q r s f h G c.length N i t u x y z g E a.length H W).mono ?_;rintro e w' ⟨rfl,hB⟩;refine⟨?_,hB⟩;congr 2;rw[Z]
  simp[dZ,Bool.and_assoc])
 have HK:Hid (dL ⟨j,m⟩ (⟨4,⟨⟨n,o⟩,p⟩,⟨⟨q,r⟩,s⟩,f,h,c,⟨⟨i,t⟩,u⟩,⟨⟨x,y⟩,z⟩,g,a⟩:Gop) k=(de ⟨j,m⟩ ⟨⟨n,o⟩,p⟩ k && fT ⟨j,m⟩ a k)):=hid (by simp[dL]);have aj:Hid ((eY (⟨4,⟨⟨n,o⟩,p⟩,⟨⟨q,r⟩,s⟩,f,h,c,⟨⟨i,t⟩,u⟩,⟨⟨x,y⟩,z⟩,g,a⟩:Gop):Int)=0):=hid (by simp[eY]);have A:=hid I;clear I Z;go_enter Tryz.func104,kQ;go_upto_region 2 with fail;generalize hW:(((w.alloc (.cells #[j,m,R,.slice B C D,T,U,.slice V X Y] 45)).alloc (.cells #[(4:Int),n,o,p,q,r,s,f,h,.slice G c.length N,i,t,u,x,y,z,g,.slice E a.length H] 125)).alloc (.cells #[j,m,.int .i64 k] 108))=W;have F:=hid (show W.heap[w.heap.size]? =some (.cells #[j,m,R,.slice B C D,T,U,.slice V X Y] 45 (0,0)) by rw[<-hW];exact(ax _ _ _ (by simp;omega)).trans ((ax _ _ _ (by simp)).trans (an _ _)));have J:=hid (show W.heap[w.heap.size+1]? =some (.cells #[(4:Int),n,o,p,q,r,s,f,h,.slice G c.length N,i,t,u,x,y,z,g,.slice E a.length H] 125 (0,0)) by rw[<-hW];exact(ax _ _ _ (by simp)).trans (cn _ _ (by simp)));have HJ:=hid (show W.heap[w.heap.size+2]? =some (.cells #[j,m,.int .i64 k] 108 (0,0)) by rw[<-hW];exact cn _ _ (by simp))
 have ab:=hid (show Below w.heap.size w W by rw[<-hW];exact(((ag _ _).alloc (aa _) _).alloc (by simp) _).alloc (by simp;omega) _);clear hW;have r0:=cw0 J.o;go_upto_region 17 with fail;clear r0;have K:=ab.o;have x1:=rg1 J.o;have x2:=rg2 J.o;have x3:=rg3 J.o;have av:=rg17 J.o;have y0:=rg0 F.o;have y1:=rg1 F.o;have y2:=rg2 F.o;have y3:=rg3 F.o;have y4:=rg4 F.o;have y5:=rg5 F.o;have y6:=rg6 F.o;obtain⟨ac,M⟩:∃l:List Value,l=[.int .i64 4,.int .i64 n,.int .i64 o,.int .i64 p,.int .i64 q,.int .i64 r,.int .i64 s,.string f,.bool h,.slice G c.length N,.int .i64 i,.int .i64 t,.int .i64 u,.int .i64 x,.int .i64 y,.int .i64 z,.string g,.slice E a.length H]:=⟨_,rfl⟩;have al:=hid M;have ao:=hid (eO (show W.rangeAt (w.heap.size+1) 0 ac by rw[M];exact jj J.o));have aq:=hid (show(Tryz.prog.info? 125).map (·.size)=some ac.length by rw[M];kernel_rfl);clear M;have cA:=λd O=>ak (fM ⟨j,m⟩ ⟨R,B,C,D,T,U,V,X,Y⟩ ⟨⟨n,o⟩,p⟩ k (grow (redrawn W d) O));have cE:=λd O=>ak (refelems_any ⟨j,m⟩ ⟨R,B,C,D,T,U,V,X,Y⟩ k E H a S (grow (redrawn W d) O) ad (hE.agr (Agr.below (K.trans ((bL W d O).mono K.size)))));have cB:=λd O=>ak (af.o (grow (redrawn W d) O));simp only[gxV,idV] at cA cE;clear K hD hE af hn ah ad F J HJ;cases P:de ⟨j,m⟩ ⟨⟨n,o⟩,p⟩ k
 case' false=>
  rw[P] at cA;obtain rfl:L= -1:=by rw[A.o];exact ej (by rw[HK.o,P];simp)
  clear P
 case' true=>
  rw[P] at cA;have H0:=hid P;clear P;cases Q:fT ⟨j,m⟩ a k
  case' false=>
   rw[Q] at cE;obtain rfl:L= -1:=by rw[A.o];exact ej (by rw[HK.o,H0.o,Q];simp)
   clear Q
  case' true=>
   rw[Q] at cE;have H1:=hid Q;clear Q;cases bb
   case' false=>
    obtain rfl:L= -1:=by rw[A.o];exact ej (by rw[<-ae.o];simp)
   case' true=>
    obtain rfl:L=0:=by rw[A.o,refV_yes (by rw[<-ae.o,HK.o,H0.o,H1.o];simp),aj.o]
 all_goals
  refine ap ?_
  repeat(any_goals(first|(refine bn rfl _ _ rfl (w.heap.size+1) 0 rfl ac _ ao.o am rfl aq.o ?_;rw[al.o])|go_big_quiet_step (first|with_reducible exact cA _ _|with_reducible exact cE _ _|with_reducible exact cB _ _)|quiet_step (first|with_reducible exact cA _ _|with_reducible exact cE _ _|with_reducible exact cB _ _)))
  refine qz λwq au=> ?_;go_wp2;go_ret;exact⟨rfl,ab.o.trans (au.mono ab.o.size)⟩
theorem refop_3n (j m:Int) (Q:Int) (C:Option Addr) (D E:Nat) (R T:Int) (U:Option Addr) (X Y:Nat) (k:Nat) (q r s y z A:Int) (g:ByteArray) (i:Bool) (f:List Gst) (h t u n o p:Int) (c:ByteArray) (a:List Gid) (H:Option Addr) (O:Nat) (I:Option Addr) (P:Nat) (S:Nat->Prop) (w:World) (hn:g.size<=9223372036854775807) (ao:f.length<=9223372036854775807) (aq:a.length<=9223372036854775807) (hD:StsS w S H f) (hE:IdsS w S I a) (ad:c.size<=1000000) (J:cnt c.data.toList=none):
  Calls Tryz.prog 104 #[.agg #[j,m,Q,.slice C D E,R,T,.slice U X Y],.agg #[(3:Int),q,r,s,y,z,A,g,i,.slice H f.length O,h,t,u,n,o,p,c,.slice I a.length P],.int .i64 k] w λe w'=>e= .returned (.int .i64 (refV ⟨j,m⟩ (⟨3,⟨⟨q,r⟩,s⟩,⟨⟨y,z⟩,A⟩,g,i,f,⟨⟨h,t⟩,u⟩,⟨⟨n,o⟩,p⟩,c,a⟩:Gop) k))∧Below w.heap.size w w':=by
 obtain⟨L,K⟩:∃v,v=refV ⟨j,m⟩ (⟨3,⟨⟨q,r⟩,s⟩,⟨⟨y,z⟩,A⟩,g,i,f,⟨⟨h,t⟩,u⟩,⟨⟨n,o⟩,p⟩,c,a⟩:Gop) k:=⟨_,rfl⟩;rw[<-K];obtain⟨bb,Z⟩:∃b,b=dZ (⟨3,⟨⟨q,r⟩,s⟩,⟨⟨y,z⟩,A⟩,g,i,f,⟨⟨h,t⟩,u⟩,⟨⟨n,o⟩,p⟩,c,a⟩:Gop):=⟨_,rfl⟩;have aB:=hid Z
 have ae:=hid (show ∀W,Calls Tryz.prog 160 #[.agg #[(3:Int),q,r,s,y,z,A,g,i,.slice H f.length O,h,t,u,n,o,p,c,.slice I a.length P],false,false,false,true,false] W λe w'=>e= .returned (.bool bb)∧Below W.heap.size W w' from λW=>by
  refine(refbare_3 3 q r s y z A g i H f.length O h t u n o p c I a.length P W).mono ?_;rintro e w' ⟨rfl,hB⟩;refine⟨?_,hB⟩;congr 2;rw[Z]
  simp[dZ,Bool.and_assoc])
 have HK:Hid (dL ⟨j,m⟩ (⟨3,⟨⟨q,r⟩,s⟩,⟨⟨y,z⟩,A⟩,g,i,f,⟨⟨h,t⟩,u⟩,⟨⟨n,o⟩,p⟩,c,a⟩:Gop) k=false):=hid (by simp[dL,textB,jq,J]);have au:Hid (∀w,Calls Tryz.prog 163 #[c] w λe w'=>e= .returned (.tuple #[(0:Int),(60:Int)])∧Below w.heap.size w w'):=hid (λw=>reflen_bad c w ad J);have B:=hid K;clear K Z J ad;go_enter Tryz.func104,kQ;go_upto_region 2 with fail;generalize hW:(((w.alloc (.cells #[j,m,Q,.slice C D E,R,T,.slice U X Y] 45)).alloc (.cells #[(3:Int),q,r,s,y,z,A,g,i,.slice H f.length O,h,t,u,n,o,p,c,.slice I a.length P] 125)).alloc (.cells #[j,m,.int .i64 k] 108))=V;have af:=hid (show V.heap[w.heap.size]? =some (.cells #[j,m,Q,.slice C D E,R,T,.slice U X Y] 45 (0,0)) by rw[<-hW];exact(ax _ _ _ (by simp;omega)).trans ((ax _ _ _ (by simp)).trans (an _ _)));have M:=hid (show V.heap[w.heap.size+1]? =some (.cells #[(3:Int),q,r,s,y,z,A,g,i,.slice H f.length O,h,t,u,n,o,p,c,.slice I a.length P] 125 (0,0)) by rw[<-hW];exact(ax _ _ _ (by simp)).trans (cn _ _ (by simp)));have ah:=hid (show V.heap[w.heap.size+2]? =some (.cells #[j,m,.int .i64 k] 108 (0,0)) by rw[<-hW];exact cn _ _ (by simp))
 have aj:=hid (show Below w.heap.size w V by rw[<-hW];exact(((ag _ _).alloc (aa _) _).alloc (by simp) _).alloc (by simp;omega) _);clear hW;have r0:=cw0 M.o;have av:=cw16 M.o;go_upto_region 14 with(go_at_call 163;refine(au.o _).mono ?_;rintro e W ⟨rfl,F⟩);have G:=bK F af;have x:=bK F M;have HJ:=bK F ah;have ab:=bT aj F;clear r0 av F af M ah aj;have al:=ab.o;have x1:=rg1 x.o;have x2:=rg2 x.o;have x3:=rg3 x.o;have aC:=rg10 x.o;have aD:=rg11 x.o;have aE:=rg12 x.o;have aF:=rg13 x.o;have aG:=rg14 x.o;have aH:=rg15 x.o;have y0:=rg0 G.o;have y1:=rg1 G.o;have y2:=rg2 G.o;have y3:=rg3 G.o;have y4:=rg4 G.o;have y5:=rg5 G.o;have y6:=rg6 G.o;have z0:=rg0 HJ.o;have z1:=rg1 HJ.o;have z2:=rg2 HJ.o;obtain⟨ac,N⟩:∃l:List Value,l=[.int .i64 3,.int .i64 q,.int .i64 r,.int .i64 s,.int .i64 y,.int .i64 z,.int .i64 A,.string g,.bool i,.slice H f.length O,.int .i64 h,.int .i64 t,.int .i64 u,.int .i64 n,.int .i64 o,.int .i64 p,.string c,.slice I a.length P]:=⟨_,rfl⟩;have aw:=hid N;have ay:=hid (eO (show W.rangeAt (w.heap.size+1) 0 ac by rw[N];exact jj x.o));have az:=hid (show(Tryz.prog.info? 125).map (·.size)=some ac.length by rw[N];kernel_rfl);clear N;have cA:=λd os=>ak (fM ⟨j,m⟩ ⟨Q,C,D,E,R,T,U,X,Y⟩ ⟨⟨q,r⟩,s⟩ k (grow (redrawn W d) os))
 have cQ:=λd os=>ak (iI ⟨j,m⟩ ⟨Q,C,D,E,R,T,U,X,Y⟩ ⟨⟨h,t⟩,u⟩ k (grow (redrawn W d) os));have cB:=λd os=>ak (ae.o (grow (redrawn W d) os));simp only[gxV,idV] at cA cQ;clear al hD hE ae hn ao aq G x HJ;cases h0:de ⟨j,m⟩ ⟨⟨q,r⟩,s⟩ k
 case' false=>
  rw[h0] at cA;obtain rfl:L= -1:=by rw[B.o];exact ej (by rw[HK.o];simp)
  clear h0
 case' true=>
  rw[h0] at cA;have H0:=hid h0;clear h0;cases h1:dK ⟨j,m⟩ ⟨⟨h,t⟩,u⟩ k
  case' false=>
   rw[h1] at cQ;obtain rfl:L= -1:=by rw[B.o];exact ej (by rw[HK.o];simp)
   clear h1
  case' true=>
   rw[h1] at cQ;have H1:=hid h1;clear h1;cases h2:Gid.eqb ⟨⟨n,o⟩,p⟩ ⟨⟨j,m⟩,(k:Int)⟩
   case' false=>
    have he:=eN n o p j m k false h2;obtain rfl:L= -1:=by rw[B.o];exact ej (by rw[HK.o];simp)
    clear h2
   case' true=>
    have he:=eN n o p j m k true h2;have H2:=hid h2;clear h2;obtain rfl:L= -1:=by rw[B.o];exact ej (by rw[HK.o];simp)
 all_goals
  refine ap ?_
  repeat(any_goals(first|(refine bn rfl _ _ rfl (w.heap.size+1) 0 rfl ac _ ay.o am rfl az.o ?_;rw[aw.o])|go_big_quiet_step (first|with_reducible exact cA _ _|with_reducible exact cQ _ _|with_reducible exact cB _ _)|quiet_step (first|with_reducible exact cA _ _|with_reducible exact cQ _ _|with_reducible exact cB _ _)))
  refine qz λwq aA=> ?_;go_wp2;go_ret;exact⟨rfl,ab.o.trans (aA.mono ab.o.size)⟩
theorem refop_3s (i j:Int) (Y:Int) (F:Option Addr) (G H:Nat) (Z ur:Int) (oA:Option Addr) (on oc:Nat) (k:Nat) (s t u z A B:Int) (g:ByteArray) (n:Bool) (f:List Gst) (h x y o p q:Int) (c:ByteArray) (a:List Gid) (K:Option Addr) (P:Nat) (L:Option Addr) (Q:Nat) (S:Nat->Prop) (w:World) (hn:g.size<=9223372036854775807) (av:f.length<=9223372036854775807) (aw:a.length<=9223372036854775807) (hD:StsS w S K f) (hE:IdsS w S L a) (ae:c.size<=1000000) (m:Nat) (C:cnt c.data.toList=some m):
  Calls Tryz.prog 104 #[.agg #[i,j,Y,.slice F G H,Z,ur,.slice oA on oc],.agg #[(3:Int),s,t,u,z,A,B,g,n,.slice K f.length P,h,x,y,o,p,q,c,.slice L a.length Q],.int .i64 k] w λe w'=>e= .returned (.int .i64 (refV ⟨i,j⟩ (⟨3,⟨⟨s,t⟩,u⟩,⟨⟨z,A⟩,B⟩,g,n,f,⟨⟨h,x⟩,y⟩,⟨⟨o,p⟩,q⟩,c,a⟩:Gop) k))∧Below w.heap.size w w':=by
 obtain⟨D,M⟩:∃v,v=refV ⟨i,j⟩ (⟨3,⟨⟨s,t⟩,u⟩,⟨⟨z,A⟩,B⟩,g,n,f,⟨⟨h,x⟩,y⟩,⟨⟨o,p⟩,q⟩,c,a⟩:Gop) k:=⟨_,rfl⟩;rw[<-M];obtain⟨bb,ab⟩:∃b,b=dZ (⟨3,⟨⟨s,t⟩,u⟩,⟨⟨z,A⟩,B⟩,g,n,f,⟨⟨h,x⟩,y⟩,⟨⟨o,p⟩,q⟩,c,a⟩:Gop):=⟨_,rfl⟩;have af:=hid ab
 have ah:=hid (show ∀W,Calls Tryz.prog 160 #[.agg #[(3:Int),s,t,u,z,A,B,g,n,.slice K f.length P,h,x,y,o,p,q,c,.slice L a.length Q],false,false,false,true,false] W λe w'=>e= .returned (.bool bb)∧Below W.heap.size W w' from λW=>by
  refine(refbare_3 3 s t u z A B g n K f.length P h x y o p q c L a.length Q W).mono ?_;rintro e w' ⟨rfl,hB⟩;refine⟨?_,hB⟩;congr 2;rw[ab]
  simp[dZ,Bool.and_assoc])
 have R:Hid (dL ⟨i,j⟩ (⟨3,⟨⟨s,t⟩,u⟩,⟨⟨z,A⟩,B⟩,g,n,f,⟨⟨h,x⟩,y⟩,⟨⟨o,p⟩,q⟩,c,a⟩:Gop) k=(de ⟨i,j⟩ ⟨⟨s,t⟩,u⟩ k && dK ⟨i,j⟩ ⟨⟨h,x⟩,y⟩ k && Gid.eqb ⟨⟨o,p⟩,q⟩ ⟨⟨i,j⟩,(k:Int)⟩ && (decide (1<=m) && decide (m<=2000)))):=hid (by simp[dL,textB,jq,C,js C]);have ay:Hid ((eY (⟨3,⟨⟨s,t⟩,u⟩,⟨⟨z,A⟩,B⟩,g,n,f,⟨⟨h,x⟩,y⟩,⟨⟨o,p⟩,q⟩,c,a⟩:Gop):Int)=m):=hid (by simp[eY,js C]);have az:Hid (∀w,Calls Tryz.prog 163 #[c] w λe w'=>e= .returned (.tuple #[.int .i64 m,(0:Int)])∧Below w.heap.size w w'):=hid (λw=>reflen_ok c m w ae C);have r:=hid M;clear M ab C ae;go_enter Tryz.func104,kQ;go_upto_region 2 with fail;generalize hW:(((w.alloc (.cells #[i,j,Y,.slice F G H,Z,ur,.slice oA on oc] 45)).alloc (.cells #[(3:Int),s,t,u,z,A,B,g,n,.slice K f.length P,h,x,y,o,p,q,c,.slice L a.length Q] 125)).alloc (.cells #[i,j,.int .i64 k] 108))=V;have aj:=hid (show V.heap[w.heap.size]? =some (.cells #[i,j,Y,.slice F G H,Z,ur,.slice oA on oc] 45 (0,0)) by rw[<-hW];exact(ax _ _ _ (by simp;omega)).trans ((ax _ _ _ (by simp)).trans (an _ _)))
 have N:=hid (show V.heap[w.heap.size+1]? =some (.cells #[(3:Int),s,t,u,z,A,B,g,n,.slice K f.length P,h,x,y,o,p,q,c,.slice L a.length Q] 125 (0,0)) by rw[<-hW];exact(ax _ _ _ (by simp)).trans (cn _ _ (by simp)));have al:=hid (show V.heap[w.heap.size+2]? =some (.cells #[i,j,.int .i64 k] 108 (0,0)) by rw[<-hW];exact cn _ _ (by simp));have ao:=hid (show Below w.heap.size w V by rw[<-hW];exact(((ag _ _).alloc (aa _) _).alloc (by simp) _).alloc (by simp;omega) _);clear hW;have r0:=cw0 N.o;have aA:=cw16 N.o;go_upto_region 14 with(go_at_call 163;refine(az.o _).mono ?_;rintro e W ⟨rfl,I⟩);have J:=bK I aj;have E:=bK I N;have HJ:=bK I al;have ac:=bT ao I;clear r0 aA I aj N al ao;have aq:=ac.o;have x1:=rg1 E.o;have x2:=rg2 E.o;have x3:=rg3 E.o;have aH:=rg10 E.o;have aI:=rg11 E.o;have aJ:=rg12 E.o;have aK:=rg13 E.o;have aL:=rg14 E.o;have aM:=rg15 E.o;have y0:=rg0 J.o;have y1:=rg1 J.o;have y2:=rg2 J.o;have y3:=rg3 J.o;have y4:=rg4 J.o;have y5:=rg5 J.o;have y6:=rg6 J.o;have z0:=rg0 HJ.o;have z1:=rg1 HJ.o;have z2:=rg2 HJ.o
 obtain⟨ad,O⟩:∃l:List Value,l=[.int .i64 3,.int .i64 s,.int .i64 t,.int .i64 u,.int .i64 z,.int .i64 A,.int .i64 B,.string g,.bool n,.slice K f.length P,.int .i64 h,.int .i64 x,.int .i64 y,.int .i64 o,.int .i64 p,.int .i64 q,.string c,.slice L a.length Q]:=⟨_,rfl⟩;have aB:=hid O;have aC:=hid (eO (show W.rangeAt (w.heap.size+1) 0 ad by rw[O];exact jj E.o));have aD:=hid (show(Tryz.prog.info? 125).map (·.size)=some ad.length by rw[O];kernel_rfl);clear O;have cA:=λd os=>ak (fM ⟨i,j⟩ ⟨Y,F,G,H,Z,ur,oA,on,oc⟩ ⟨⟨s,t⟩,u⟩ k (grow (redrawn W d) os));have cQ:=λd os=>ak (iI ⟨i,j⟩ ⟨Y,F,G,H,Z,ur,oA,on,oc⟩ ⟨⟨h,x⟩,y⟩ k (grow (redrawn W d) os));have cB:=λd os=>ak (ah.o (grow (redrawn W d) os));simp only[gxV,idV] at cA cQ;clear aq hD hE ah hn av aw J E HJ;cases T:de ⟨i,j⟩ ⟨⟨s,t⟩,u⟩ k
 case' false=>
  rw[T] at cA;obtain rfl:D= -1:=by rw[r.o];exact ej (by rw[R.o,T];simp)
  clear T
 case' true=>
  rw[T] at cA;have H0:=hid T;clear T;cases U:dK ⟨i,j⟩ ⟨⟨h,x⟩,y⟩ k
  case' false=>
   rw[U] at cQ;obtain rfl:D= -1:=by rw[r.o];exact ej (by rw[R.o,H0.o,U];simp)
   clear U
  case' true=>
   rw[U] at cQ;have H1:=hid U;clear U;cases X:Gid.eqb ⟨⟨o,p⟩,q⟩ ⟨⟨i,j⟩,(k:Int)⟩
   case' false=>
    have he:=eN o p q i j k false X;obtain rfl:D= -1:=by rw[r.o];exact ej (by rw[R.o,H0.o,H1.o,X];simp)
    clear X
   case' true=>
    have he:=eN o p q i j k true X;have H2:=hid X;clear X;by_cases m1:1<=m
    case' neg=>
     obtain rfl:m=0:=by omega
     obtain rfl:D= -1:=by rw[r.o];exact ej (by rw[R.o,H0.o,H1.o,H2.o];simp)
    case' pos=>
     have b1:decide ((m:Int)≥1)=true:=by rw[au];omega
     have b2:(m:Int)≥1:=by omega
     have b4:(1:Int)<=(m:Int):=by omega
     by_cases m2:m<=2000
     case' neg=>
      have b3:¬(m:Int)<=2000:=by omega
      obtain rfl:D= -1:=by rw[r.o];exact ej (by rw[R.o,H0.o,H1.o,H2.o];simp[m2])
      clear m1 m2
     case' pos=>
      have b3:(m:Int)<=2000:=by omega
      have aE:=hid m1;have aF:=hid m2;clear m1 m2;cases bb
      case' false=>
       obtain rfl:D= -1:=by rw[r.o];exact ej (by rw[<-af.o];simp)
      case' true=>
       obtain rfl:D=m:=by rw[r.o,refV_yes (by rw[<-af.o,R.o,H0.o,H1.o,H2.o];simp[aE.o,aF.o]),ay.o]
 all_goals
  refine ap ?_
  repeat(any_goals(first|(refine bn rfl _ _ rfl (w.heap.size+1) 0 rfl ad _ aC.o am rfl aD.o ?_;rw[aB.o])|go_big_quiet_step (first|with_reducible exact cA _ _|with_reducible exact cQ _ _|with_reducible exact cB _ _)|quiet_step (first|with_reducible exact cA _ _|with_reducible exact cQ _ _|with_reducible exact cB _ _)))
  refine qz λwq aG=> ?_;go_wp2;go_ret;exact⟨rfl,ac.o.trans (aG.mono ac.o.size)⟩
theorem refop_x (i j:Int) (A:Int) (l:Option Addr) (m n:Nat) (B C:Int) (D:Option Addr) (E F:Nat) (k:Nat) (a:Int) (K:¬a=0) (L:¬a=1) (M:¬a=2) (N:¬a=3) (O:¬a=4) (o p q r s t:Int) (c:ByteArray) (g:Bool) (d:List Gst) (h u v x y z:Int) (f:ByteArray) (b:List Gid) (G:Option Addr) (H:Nat) (I:Option Addr) (J:Nat) (w:World):
  Calls Tryz.prog 104 #[.agg #[i,j,A,.slice l m n,B,C,.slice D E F],.agg #[a,o,p,q,r,s,t,c,g,.slice G d.length H,h,u,v,x,y,z,f,.slice I b.length J],.int .i64 k] w λe w'=>e= .returned (.int .i64 (refV ⟨i,j⟩ (⟨a,⟨⟨o,p⟩,q⟩,⟨⟨r,s⟩,t⟩,c,g,d,⟨⟨h,u⟩,v⟩,⟨⟨x,y⟩,z⟩,f,b⟩:Gop) k))∧Below w.heap.size w w':=by
 rw[ej (by simp[dL,K,L,M,N,O])];have R:(a == 0)=false:=by rw[aL];exact K
 have S:(a == 1)=false:=by rw[aL];exact L
 have T:(a == 2)=false:=by rw[aL];exact M
 have U:(a == 3)=false:=by rw[aL];exact N
 have V:(a == 4)=false:=by rw[aL];exact O
 go_enter Tryz.func104,kQ;go_upto_region 2 with fail;generalize hW:(((w.alloc (.cells #[i,j,A,.slice l m n,B,C,.slice D E F] 45)).alloc (.cells #[a,o,p,q,r,s,t,c,g,.slice G d.length H,h,u,v,x,y,z,f,.slice I b.length J] 125)).alloc (.cells #[i,j,.int .i64 k] 108))=W;have X:=hid (show W.heap[w.heap.size]? =some (.cells #[i,j,A,.slice l m n,B,C,.slice D E F] 45 (0,0)) by rw[<-hW];exact(ax _ _ _ (by simp;omega)).trans ((ax _ _ _ (by simp)).trans (an _ _)));have Q:=hid (show W.heap[w.heap.size+1]? =some (.cells #[a,o,p,q,r,s,t,c,g,.slice G d.length H,h,u,v,x,y,z,f,.slice I b.length J] 125 (0,0)) by rw[<-hW];exact(ax _ _ _ (by simp)).trans (cn _ _ (by simp)));have Y:=hid (show W.heap[w.heap.size+2]? =some (.cells #[i,j,.int .i64 k] 108 (0,0)) by rw[<-hW];exact cn _ _ (by simp));have P:=hid (show Below w.heap.size w W by rw[<-hW];exact(((ag _ _).alloc (aa _) _).alloc (by simp) _).alloc (by simp;omega) _);clear hW;have Z:=cw0 Q.o;go_wp2;go_ret;exact⟨rfl,P.o⟩
end
section
open Go.RowKit Go.Lib Go.Sort
attribute [local go_sem ↓] Go.wp_at_zero Go.wp_at_succ
theorem refop_any (p q:Int) (r:Int) (f:Option Addr) (g h:Nat) (s t:Int) (u:Option Addr) (v y:Nat) (k:Nat) (o:Gop) (x:OpX) (S:Nat->Prop) (w:World) (z:OpIn w S o x) (P:o.text.size<=1000000):
  Calls Tryz.prog 104 #[.agg #[p,q,r,.slice f g h,s,t,.slice u v y],.agg (opA o x),.int .i64 k] w λe w'=>e= .returned (.int .i64 (refV ⟨p,q⟩ o k))∧Below w.heap.size w w':=by
 obtain⟨d,⟨⟨A,B⟩,C⟩,⟨⟨D,E⟩,F⟩,b,i,c,⟨⟨j,G⟩,H⟩,⟨⟨I,J⟩,K⟩,text,a⟩:=o;obtain⟨L,M,N,O⟩:=x;have Q:=aP z.dle z.dmax;have R:=aP z.ele z.emax;have T:=z.name;have l:=z.dots;have n:=z.elems;simp only[maxLen] at Q R T l n P;by_cases U:d=0
 ·subst U;exact refop_0 p q r f g h s t u v y k A B C D E F b i c j G H I J K text a L M N O S w (by omega) (by omega) (by omega) l n
 by_cases V:d=1
 ·subst V;exact refop_1 p q r f g h s t u v y k A B C D E F b i c j G H I J K text a L M N O S w (by omega) (by omega) (by omega) l n
 by_cases W:d=2
 ·subst W;exact refop_2 p q r f g h s t u v y k A B C D E F b i c j G H I J K text a L M N O S w (by omega) (by omega) (by omega) l n
 by_cases X:d=4
 ·subst X;exact refop_4 p q r f g h s t u v y k A B C D E F b i c j G H I J K text a L M N O S w (by omega) (by omega) (by omega) l n
 by_cases Y:d=3
 ·subst Y;cases Z:cnt text.data.toList with
  |none=>exact refop_3n p q r f g h s t u v y k A B C D E F b i c j G H I J K text a L M N O S w (by omega) (by omega) (by omega) l n P Z
  |some m=>exact refop_3s p q r f g h s t u v y k A B C D E F b i c j G H I J K text a L M N O S w (by omega) (by omega) (by omega) l n P m Z
 exact refop_x p q r f g h s t u v y k d U V W Y X A B C D E F b i c j G H I J K text a L M N O w
theorem refchk_head (t r n:Int) (v:List Int) (z A:Int) (ops:List Gop) (l:Option Addr) (j:Nat) (E:Option Addr) (F:Nat) (w:World) (m:v.length<=j) (p:j<=9223372036854775807) (G:i63 n) (H:VecR w l v) (I:fJ ⟨⟨t,r⟩,n,v,⟨z,A⟩,ops⟩=false):
  Calls Tryz.prog 54 #[.agg #[t,r,n,.slice l v.length j,z,A,.slice E ops.length F]] w λe w'=>e= .returned (.int .i64 80)∧Below w.heap.size w w':=by
 have D:=G;unfold i63 at D;obtain⟨W,B⟩:∃W,W=w.alloc (.cells #[t,r,n,.slice l v.length j,z,A,.slice E ops.length F] 45):=⟨_,rfl⟩;have q:Below w.heap.size w W:=by subst B;exact(ag _ _).alloc (aa _) _
 have s:=H.below q;have o:W.heap[w.heap.size]? =some (.cells #[t,r,n,.slice l v.length j,z,A,.slice E ops.length F] 45 (0,0)):=by subst B;exact an _ _
 have P:=rg0 o;have Q:=rg1 o;have R:=rg2 o;have S:=rg3 o;have h:=λd k=>ak (fv t r (grow (redrawn W d) k));have c:=λd k=>ak (iH l j v (grow (redrawn W d) k) m (by omega) (s.regrown d k));have f:=λd k=>Calls.regrown_same (eT l j v r (grow (redrawn W d) k) (by omega) (s.regrown d k));have u:=hid B;have T:=hid o;have b:=hid q;clear o s B q;have J:=hid I;clear I H G;cases i:Gst.right ⟨t,r⟩ with
 |false=>
  rw[i] at h;clear i c f D m p;go_enter Tryz.func54,jX;go_upto_region 1 with fail;rw[<-u.o];refine rqb ?_
  repeat(any_goals(first|go_big_quiet_step (with_reducible first|exact h _ _|exact c _ _|exact f _ _)|quiet_step (with_reducible first|exact h _ _|exact c _ _|exact f _ _)))
  refine qz λC g=> ?_;go_wp2;go_ret;exact⟨rfl,b.o.trans (g.mono b.o.size)⟩
 |true=>
 rw[i] at h;by_cases K:n<1
 ·have M:decide (n<1)=true:=aI K;clear i c f m p;go_enter Tryz.func54,jX;go_upto_region 1 with fail;rw[<-u.o];refine rqb ?_
  repeat(any_goals(first|go_big_quiet_step (with_reducible first|exact h _ _|exact c _ _|exact f _ _)|quiet_step (with_reducible first|exact h _ _|exact c _ _|exact f _ _)))
  refine qz λC g=> ?_;go_wp2;go_ret;exact⟨rfl,b.o.trans (g.mono b.o.size)⟩
 have M:decide (n<1)=false:=aC K;by_cases L:1099511627776<n
 ·have N:decide (1099511627776<n)=true:=aI L;clear i c f m p;go_enter Tryz.func54,jX;go_upto_region 1 with fail;rw[<-u.o];refine rqb ?_
  repeat(any_goals(first|go_big_quiet_step (with_reducible first|exact h _ _|exact c _ _|exact f _ _)|quiet_step (with_reducible first|exact h _ _|exact c _ _|exact f _ _)))
  refine qz λC g=> ?_;go_wp2;go_ret;exact⟨rfl,b.o.trans (g.mono b.o.size)⟩
 have N:decide (1099511627776<n)=false:=aC L;have O:IntKind.i64.wrap (n-1)=n-1:=cH _ (by omega);cases x:vecB v with
 |false=>
  rw[x] at c;clear x f i m p O;go_enter Tryz.func54,jX;go_upto_region 1 with fail;rw[<-u.o];refine rqb ?_
  repeat(any_goals(first|go_big_quiet_step (with_reducible first|exact h _ _|exact c _ _|exact f _ _)|quiet_step (with_reducible first|exact h _ _|exact c _ _|exact f _ _)))
  refine qz λC g=> ?_;go_wp2;go_ret;exact⟨rfl,b.o.trans (g.mono b.o.size)⟩
 |true=>
 rw[x] at c;have y:¬atV v r=n-1:=λy=>by
  have:=J.o;simp only[fJ,i,x,y,decide_true,bw,aZ] at this;rw[aI (show 1<=n by omega),aI (show n<=1099511627776 by omega)] at this;cases this
 generalize atV v r=a at *;have U:(a == n-1)=false:=by rw[aL];exact y
 have V:(a != n-1)=true:=by rw[cM];exact y
 clear y x i m p J;go_enter Tryz.func54,jX;go_upto_region 1 with fail;rw[<-u.o];refine rqb ?_
 repeat(any_goals(first|go_big_quiet_step (with_reducible first|exact h _ _|exact c _ _|exact f _ _)|quiet_step (with_reducible first|exact h _ _|exact c _ _|exact f _ _)))
 refine qz λC g=> ?_;go_wp2;go_ret;exact⟨rfl,b.o.trans (g.mono b.o.size)⟩
theorem head_parts {t r n:Int} {v:List Int} {a b:Int} {ops:List Gop} (h:fJ ⟨⟨t,r⟩,n,v,⟨a,b⟩,ops⟩=true):Gst.right ⟨t,r⟩=true∧1<=n∧n<=1099511627776∧vecB v=true∧atV v r=n-1:=by
 simp only[fJ,ay,au] at h;exact⟨h.1.1.1.1,h.1.1.1.2,h.1.1.2,h.1.2,h.2⟩
theorem refchk_undo (t r n:Int) (v:List Int) (f g:Int) (ops:List Gop) (m:Option Addr) (k:Nat) (G:Option Addr) (H:Nat) (w:World) (J:v.length<=k) (X:k<=9223372036854775807) (K:i63 n) (I:VecR w m v) (L:fJ ⟨⟨t,r⟩,n,v,⟨f,g⟩,ops⟩=true) (M:Gst.eqb ⟨f,g⟩ ⟨0,0⟩=false) (z:Int) (N:z=if (Gst.right ⟨f,g⟩ && Gst.lt ⟨f,g⟩ ⟨t,r⟩ && decide (ops.length=0))=true then 0 else 80):
  Calls Tryz.prog 54 #[.agg #[t,r,n,.slice m v.length k,f,g,.slice G ops.length H]] w λe w'=>e= .returned (.int .i64 z)∧Below w.heap.size w w':=by
 have y:=hid N;clear N;obtain⟨O,Y,Z,P,Q⟩:=head_parts L;have E:=K;unfold i63 at E;obtain⟨W,A⟩:∃W,W=w.alloc (.cells #[t,r,n,.slice m v.length k,f,g,.slice G ops.length H] 45):=⟨_,rfl⟩;have u:Below w.heap.size w W:=by subst A;exact(ag _ _).alloc (aa _) _
 have x:=I.below u;have o:W.heap[w.heap.size]? =some (.cells #[t,r,n,.slice m v.length k,f,g,.slice G ops.length H] 45 (0,0)):=by subst A;exact an _ _
 have R:=rg0 o;have S:=rg1 o;have x2:=rg2 o;have x3:=rg3 o;have B:=λd h=>ak (fv t r (grow (redrawn W d) h));have C:=λd h=>ak (iH m k v (grow (redrawn W d) h) J (by omega) (x.regrown d h));have D:=λd h=>Calls.regrown_same (eT m k v r (grow (redrawn W d) h) (by omega) (x.regrown d h));have T:=hid A;have U:=hid o;have F:=hid u;clear o x A u;rw[O] at B;rw[P] at C;have t1:decide (n<1)=false:=aC (by omega);have s1:¬n<1:=by omega
 have t2:decide (1099511627776<n)=false:=aC (by omega);have s2:¬1099511627776<n:=by omega
 have hw:IntKind.i64.wrap (n-1)=n-1:=cH _ (by omega);have HD:=hid I;rw[Q] at D;have t3:(n-1 == n-1)=true:=gw _;have t4:(n-1 != n-1)=false:=by rw[iY]
 have V:=ne_st f g 0 0 false M;clear L Q P O J X K E I M Y Z;go_enter Tryz.func54,jX;go_upto_region 1 with fail;rw[<-T.o];refine rqb ?_
 repeat(any_goals(first|go_big_quiet_step (with_reducible first|exact B _ _|exact C _ _|exact D _ _)|quiet_step (with_reducible first|exact B _ _|exact C _ _|exact D _ _)))
 refine qz λp b=> ?_;have a:=bK b U;have c:=bT F b;clear b R S x2 x3 B C D t1 t2 s1 s2 hw t3 t4 T U F;have r0:=cw0 a.o;have r1:=cw1 a.o;have r2:=cw2 a.o;have r3:=cw3 a.o;have r4:=cw4 a.o;have r5:=cw5 a.o;have r6:=cw6 a.o;go_upto_region 4 with fail;clear V;have R:=rg0 a.o;have S:=rg1 a.o;have x4:=rg4 a.o;have x5:=rg5 a.o;have x6:=rg6 a.o;have i:=λd h=>ak (fv f g (grow (redrawn p d) h));have j:=λd h=>ak (eV f g t r (grow (redrawn p d) h));clear r0 r1 r2 r3 r4 r5 r6 a HD;cases q:Gst.right ⟨f,g⟩ with
 |false=>
  obtain rfl:z=80:=by rw[y.o,q];simp
  rw[q] at i;clear q;refine ap ?_
  repeat(any_goals(first|go_big_quiet_step (with_reducible first|exact i _ _|exact j _ _)|quiet_step (with_reducible first|exact i _ _|exact j _ _)))
  refine qz λp b=> ?_;go_wp2;go_ret;exact⟨rfl,c.o.trans (b.mono c.o.size)⟩
 |true=>
 have HU:=hid q;rw[q] at i;clear q;cases s:Gst.lt ⟨f,g⟩ ⟨t,r⟩ with
 |false=>
  obtain rfl:z=80:=by rw[y.o,s];simp
  rw[s] at j;clear s;refine ap ?_
  repeat(any_goals(first|go_big_quiet_step (with_reducible first|exact i _ _|exact j _ _)|quiet_step (with_reducible first|exact i _ _|exact j _ _)))
  refine qz λp b=> ?_;go_wp2;go_ret;exact⟨rfl,c.o.trans (b.mono c.o.size)⟩
 |true=>
 have HL:=hid s;rw[s] at j;clear s;by_cases l:ops.length=0
 ·obtain rfl:z=0:=by rw[y.o,HU.o,HL.o,l];simp
  have e1:ops=[]:=cu l;subst e1;clear l;refine ap ?_
  repeat(any_goals(first|go_big_quiet_step (with_reducible first|exact i _ _|exact j _ _)|quiet_step (with_reducible first|exact i _ _|exact j _ _)))
  refine qz λp b=> ?_;go_wp2;go_ret;exact⟨rfl,c.o.trans (b.mono c.o.size)⟩
 ·obtain rfl:z=80:=by rw[y.o,aC l];simp
  have b1:0<(ops.length:Int):=by omega
  have b2:decide (0<ops.length)=true:=by rw[au];omega
  have b3:0<ops.length:=by omega
  have b7:¬ops=[]:=by intro e;rw[e] at l;simp at l
  clear l;refine ap ?_
  repeat(any_goals(first|go_big_quiet_step (with_reducible first|exact i _ _|exact j _ _)|quiet_step (with_reducible first|exact i _ _|exact j _ _)))
  refine qz λp b=> ?_;go_wp2;go_ret;exact⟨rfl,c.o.trans (b.mono c.o.size)⟩
theorem refchk_few (t r n:Int) (v:List Int) (f g:Int) (ops:List Gop) (h:Option Addr) (b:Nat) (z:Option Addr) (A:Nat) (w:World) (C:v.length<=b) (N:b<=9223372036854775807) (D:i63 n) (B:VecR w h v) (E:fJ ⟨⟨t,r⟩,n,v,⟨f,g⟩,ops⟩=true) (F:Gst.eqb ⟨f,g⟩ ⟨0,0⟩=true) (G:¬(1<=ops.length∧ops.length<=200)):
  Calls Tryz.prog 54 #[.agg #[t,r,n,.slice h v.length b,f,g,.slice z ops.length A]] w λe w'=>e= .returned (.int .i64 80)∧Below w.heap.size w w':=by
 obtain⟨H,i,O,I,J⟩:=head_parts E;have u:=D;unfold i63 at u;obtain⟨W,o⟩:∃W,W=w.alloc (.cells #[t,r,n,.slice h v.length b,f,g,.slice z ops.length A] 45):=⟨_,rfl⟩;have k:Below w.heap.size w W:=by subst o;exact(ag _ _).alloc (aa _) _
 have l:=B.below k;have j:W.heap[w.heap.size]? =some (.cells #[t,r,n,.slice h v.length b,f,g,.slice z ops.length A] 45 (0,0)):=by subst o;exact an _ _
 have P:=rg0 j;have Q:=rg1 j;have R:=rg2 j;have S:=rg3 j;have p:=λd c=>ak (fv t r (grow (redrawn W d) c));have q:=λd c=>ak (iH h b v (grow (redrawn W d) c) C (by omega) (l.regrown d c));have s:=λd c=>Calls.regrown_same (eT h b v r (grow (redrawn W d) c) (by omega) (l.regrown d c));have K:=hid o;have L:=hid j;have x:=hid k;clear j l o k;rw[H] at p;rw[I] at q;have T:decide (n<1)=false:=aC (by omega);have U:¬n<1:=by omega
 have V:decide (1099511627776<n)=false:=aC (by omega);have X:¬1099511627776<n:=by omega
 have Y:IntKind.i64.wrap (n-1)=n-1:=cH _ (by omega);have HD:=hid B;rw[J] at s;have Z:(n-1 == n-1)=true:=gw _;have t4:(n-1 != n-1)=false:=by rw[iY]
 have ab:=ne_st f g 0 0 true F;clear E J I H C N D u B F i O;go_enter Tryz.func54,jX;go_upto_region 1 with fail;rw[<-K.o];refine rqb ?_
 repeat(any_goals(first|go_big_quiet_step (with_reducible first|exact p _ _|exact q _ _|exact s _ _)|quiet_step (with_reducible first|exact p _ _|exact q _ _|exact s _ _)))
 refine qz λwq m=> ?_;have a:=bK m L;have y:=bT x m;clear m P Q R S p q s T V U X Y Z t4 K L x;have r0:=cw0 a.o;have r1:=cw1 a.o;have r2:=cw2 a.o;have r3:=cw3 a.o;have r4:=cw4 a.o;have r5:=cw5 a.o;have r6:=cw6 a.o;by_cases i:1<=ops.length
 ·have b1:decide (ops.length<1)=false:=by rw[aW];omega
  have b2:¬(ops.length:Int)<1:=by omega
  have b3:decide (200<ops.length)=true:=by rw[au];omega
  have b4:200<(ops.length:Int):=by omega
  have b5:decide (ops.length=0)=false:=by rw[aW];omega
  have M:decide (0<ops.length)=true:=by rw[au];omega
  have b7:¬ops=[]:=by intro e;rw[e] at i;simp at i
  clear i G;go_wp2;go_ret;exact⟨rfl,y.o⟩
 ·have M:ops=[]:=cu (by omega);clear i G;subst M;go_wp2;go_ret;exact⟨rfl,y.o⟩
theorem refV_opB {g:Gst} {o:Gop} {k:Nat} (b:Bool) (h:b=opB g o k):refV g o k=if b=true then (eY o:Int) else -1:=by
 unfold refV;rw[h];unfold opB;rw[Bool.and_comm]
theorem refchk_ops (t r n:Int) (v:List Int) (u y:Int) (ops:List Gop) (A:Option Addr) (s:Nat) (M:Option Addr) (N:Nat) (w:World) (hl:v.length<=s) (O:s<=9223372036854775807) (hn:i63 n) (hD:VecR w A v) (hh:fJ ⟨⟨t,r⟩,n,v,⟨u,y⟩,ops⟩=true) (hu:Gst.eqb ⟨u,y⟩ ⟨0,0⟩=true) (h1:1<=ops.length) (h2:ops.length<=200) (S:Nat->Prop) (hO:OpsS w S M ops) (ab:∀o∈ops,o.text.size<=1000000) (z:Int) (hz:z=if opsB ⟨t,r⟩ ops 0=true then 0 else 80):
  Calls Tryz.prog 54 #[.agg #[t,r,n,.slice A v.length s,u,y,.slice M ops.length N]] w λe w'=>e= .returned (.int .i64 z)∧Below w.heap.size w w':=by
 have HO:=hid hO;have ap:=hid ab;have HZ:=hid hz;have P:=hid h1;have H2:=hid h2;clear hO ab hz h1 h2;obtain⟨hR,h1,h2,hV,h3⟩:=head_parts hh;have ac:=hn;unfold i63 at ac;obtain⟨W,hW⟩:∃W,W=w.alloc (.cells #[t,r,n,.slice A v.length s,u,y,.slice M ops.length N] 45):=⟨_,rfl⟩;have Q:Below w.heap.size w W:=by subst hW;exact(ag _ _).alloc (aa _) _
 have R:=hD.below Q;have K:W.heap[w.heap.size]? =some (.cells #[t,r,n,.slice A v.length s,u,y,.slice M ops.length N] 45 (0,0)):=by subst hW;exact an _ _
 have x0:=rg0 K;have x1:=rg1 K;have x2:=rg2 K;have x3:=rg3 K;have cR:=λd q=>ak (fv t r (grow (redrawn W d) q));have cV:=λd q=>ak (iH A s v (grow (redrawn W d) q) hl (by omega) (R.regrown d q));have cA:=λd q=>Calls.regrown_same (eT A s v r (grow (redrawn W d) q) (by omega) (R.regrown d q));have HW:=hid hW;have HA:=hid K;have ad:=hid Q;clear K R hW Q;rw[hR] at cR;rw[hV] at cV;have t1:decide (n<1)=false:=aC (by omega);have s1:¬n<1:=by omega
 have t2:decide (1099511627776<n)=false:=aC (by omega);have s2:¬1099511627776<n:=by omega
 have hw:IntKind.i64.wrap (n-1)=n-1:=cH _ (by omega);have HD:=hid hD;rw[h3] at cA;have t3:(n-1 == n-1)=true:=gw _;have t4:(n-1 != n-1)=false:=by rw[iY]
 have aq:=ne_st u y 0 0 true hu;clear hh h3 hV hR hl O hn ac hD hu h1 h2;go_enter Tryz.func54,jX;go_upto_region 1 with fail;rw[<-HW.o];refine rqb ?_
 repeat(any_goals(first|go_big_quiet_step (with_reducible first|exact cR _ _|exact cV _ _|exact cA _ _)|quiet_step (with_reducible first|exact cR _ _|exact cV _ _|exact cA _ _)))
 refine qz λwq b=> ?_;have p:=bK b HA;have ar:=bT ad b;clear b x0 x1 x2 x3 cR cV cA t1 t2 s1 s2 hw t3 t4 HW HA ad;have r0:=cw0 p.o;have r1:=cw1 p.o;have r2:=cw2 p.o;have r3:=cw3 p.o;have r4:=cw4 p.o;have r5:=cw5 p.o;have r6:=cw6 p.o;have b1:decide (ops.length<1)=false:=by rw[aW];have:=P.o;omega
 have b2:¬(ops.length:Int)<1:=by have:=P.o;omega
 have b3:decide (200<ops.length)=false:=by rw[aW];have:=H2.o;omega
 have b4:¬200<(ops.length:Int):=by have:=H2.o;omega
 have b5:decide (ops.length=0)=false:=by rw[aW];have:=P.o;omega
 have b6:decide (0<ops.length)=true:=by rw[au];have:=P.o;omega
 have b7:¬ops=[]:=by intro e;have:=P.o;rw[e] at this;simp at this
 go_upto_region 11 with(fail);clear b1 b2 b3 b4 b5 b6 b7 aq;go_loopw [3,4] (λk i wr=>∃j a:Nat,j<=ops.length∧i= .int .i64 j∧k= .int .i64 a∧a<=2000*j∧Hid (opsB ⟨t,r⟩ ops 0=opsB ⟨t,r⟩ (ops.drop j) a)∧Hid (Below w.heap.size w wr)∧Hid (wr.heap[w.heap.size]? =some (.cells #[t,r,n,.slice A v.length s,u,y,.slice M ops.length N] 45 (0,0)))) (λ_ i _=>ops.length-(RowKit.intOf i).toNat)
 case atStart=>exact⟨0,0,by omega,rfl,rfl,by omega,hid rfl,ar,p⟩
 case round=>
  clear r0 r1 r2 r3 r4 r5 r6;obtain⟨j,a,hj,rfl,rfl,az,HK,B,c⟩:=hrel;have r6:=cw6 c.o;by_cases C:j<ops.length
  ·have av:(j:Int)<(ops.length:Int):=by omega
   have aA:decide ((j:Int)<(ops.length:Int))=true:=aI av;go_upto_region 13 with fail;obtain⟨X,ae,af⟩:=OpsS.agr HO.o (Agr.below B.o);obtain⟨ob,oo,rfl,hS,aB,O⟩:=ae j C;have G:=af j C;obtain⟨o,T⟩:∃o,o=ops.getD j (opO 0 .zero):=⟨_,rfl⟩;obtain⟨x,hx⟩:∃x,x=X j:=⟨_,rfl⟩;rw[<-T] at G;simp only[<-T,<-hx] at G O;have ah:o.text.size<=1000000:=ap.o o (by rw[T];simp[List.getD,C]);have ai:=hid (show opsB ⟨t,r⟩ (ops.drop j) a=(opB ⟨t,r⟩ o a && opsB ⟨t,r⟩ (ops.drop (j+1)) (a+eY o)) by rw[T];exact opsB_step (g:=⟨t,r⟩) (k:=a) C (opO 0 .zero));have U:=λh=>more_le (g:=⟨t,r⟩) (o:=o) (k:=a) h;obtain⟨bb,H⟩:∃m,m=opB ⟨t,r⟩ o a:=⟨_,rfl⟩;have f:=λd q=>ak (refop_any t r n A v.length s u y (some ⟨ob,oo,none⟩) ops.length N a o x S (grow (redrawn wr d) q) (G.agr (Agr.below (bL wr d q))) ah);rw[refV_opB bb H] at f;obtain⟨L,E⟩:∃m,m=eY o:=⟨_,rfl⟩;simp only[<-E,<-H] at f U;have V:Hid (opsB ⟨t,r⟩ (ops.drop j) a=(bb && opsB ⟨t,r⟩ (ops.drop (j+1)) (a+L))):=hid (by rw[H,E];exact ai.o);have Y:=hid (eO (jD O));obtain⟨I,J⟩:∃l,l=opL o x:=⟨_,rfl⟩;rw[<-J] at Y;have aj:=hid (show(Tryz.prog.info? 125).map (·.size)=some I.length by rw[J];kernel_rfl);clear ai E H T hx G ah ae af O r6;have al:=hid U;clear U;have ao:=hid (show(.agg I.toArray:Value)= .agg (opA o x) by rw[J];rfl);clear J;have x0:=rg0 c.o;have x1:=rg1 c.o
   have x2:=rg2 c.o;have x3:=rg3 c.o;have x4:=rg4 c.o;have x5:=rg5 c.o;have x6:=rg6 c.o;have aD:IntKind.i64.wrap ((j:Int)+1)=(j:Int)+1:=cH _ (by have:=H2.o;omega);have aE:j<ops.length:=C;cases bb with
   |false=>
    obtain rfl:z=80:=by rw[HZ.o,HK.o,V.o];rfl
    simp only[jI,if_false] at f;refine rqb ?_
    repeat(any_goals(first|(refine bn rfl _ _ rfl ob (oo+j*18) rfl I _ Y.o am rfl aj.o ?_;rw[ao.o])|go_big_quiet_step (with_reducible exact f _ _)|quiet_step (with_reducible exact f _ _)))
    refine wpQuiet_nil ?_;intro _ Z;obtain⟨⟨dq,D⟩,F⟩:=Z;subst F;have b:=bL wr dq D;generalize grow (redrawn wr dq) D=aw at *;go_wp2;go_ret;exact⟨rfl,B.o.trans (b.mono B.o.size)⟩
   |true=>
    simp only[fl] at f;have aF:IntKind.i64.wrap ((a:Int)+(L:Int))=(a:Int)+(L:Int):=cH _ (by have:=H2.o;have:=al.o rfl;omega);have m1:¬(L:Int)<0:=by omega
    have m2:decide ((L:Int)<0)=false:=aC m1;refine rqb ?_
    repeat(any_goals(first|(refine bn rfl _ _ rfl ob (oo+j*18) rfl I _ Y.o am rfl aj.o ?_;rw[ao.o])|go_big_quiet_step (with_reducible exact f _ _)|quiet_step (with_reducible exact f _ _)))
    refine wpQuiet_nil ?_;intro _ Z;obtain⟨⟨dq,D⟩,F⟩:=Z;subst F;have b:=bL wr dq D;generalize grow (redrawn wr dq) D=aw at *;have ax:=bK b c;have ay:=bT B b;clear b f x0 x1 x2 x3 x4 x5 x6;go_wp2;go_roundw
    case rel=>exact⟨j+1,a+L,by omega,by go_num,by go_num,by have:=al.o rfl;omega,hid (by rw[HK.o,V.o];rfl),ay,ax⟩
    case measure=>simp[RowKit.intOf];omega
  ·obtain rfl:j=ops.length:=by omega
   obtain rfl:z=0:=by rw[HZ.o,HK.o,List.drop_length];rfl
   go_wp2;go_ret;exact⟨rfl,B.o⟩
theorem refchk_any (g:Grp) (i:Option Addr) (d:Nat) (j:Option Addr) (k:Nat) (S:Nat->Prop) (w:World) (l:GrIn w S g i d j k) (x:g.ops.length<=200->∀o∈g.ops,o.text.size<=1000000):
  Calls Tryz.prog 54 #[.agg (grA g i d j k)] w λe w'=>e= .returned (.int .i64 (if chkB g=true then 0 else 80))∧Below w.heap.size w w':=by
 obtain⟨⟨t,r⟩,n,v,⟨a,b⟩,ops⟩:=g;have m:=l.dle;have u:d<=9223372036854775807:=by have:=l.dmax;simp only[maxLen] at this;omega
 have p:=l.nin;have q:=l.deps.vec;simp only at m p q x;cases c:fJ ⟨⟨t,r⟩,n,v,⟨a,b⟩,ops⟩ with
 |false=>
  have:chkB ⟨⟨t,r⟩,n,v,⟨a,b⟩,ops⟩=false:=by unfold chkB;rw[c];rfl
  rw[this];exact refchk_head t r n v a b ops i d j k w m u p q c
 | true=>
  cases s:Gst.eqb ⟨a,b⟩ ⟨0,0⟩ with
  |false=>
   refine refchk_undo t r n v a b ops i d j k w m u p q c s _ ?_;have:Gst.eqb ⟨a,b⟩ .zero=false:=s;simp only[chkB,c,this,aZ,jI,if_false]
  | true=>
   have y:Gst.eqb ⟨a,b⟩ .zero=true:=s;by_cases f:1<=ops.length∧ops.length<=200
   ·refine refchk_ops t r n v a b ops i d j k w m u p q c s f.1 f.2 S l.ops (x f.2) _ ?_;simp only[chkB,c,y,aZ,fl,aI f.1,aI f.2]
   ·have:chkB ⟨⟨t,r⟩,n,v,⟨a,b⟩,ops⟩=false:=by
     simp only[chkB,c,y,aZ,fl];by_cases z:1<=ops.length
     ·have:¬ops.length<=200:=λh=>f ⟨z,h⟩;simp[this]
     ·simp[z]
    rw[this];exact refchk_few t r n v a b ops i d j k w m u p q c s f
end
end
section
open Go.RowKit Go.Lib Go.Sort
theorem vchk_any (g:Grp) (dA:Option Addr) (dc:Nat) (oA:Option Addr) (oc:Nat) (S:Nat->Prop) (w:World) (hI:GrIn w S g dA dc oA oc) (hTx:g.ops.length<=200->∀o∈g.ops,o.text.size<=1000000) (hck:chkB g=true):
  Calls Tryz.prog 54 #[.agg (grA g dA dc oA oc)] w λe w'=>e= .returned (.int .i64 (if chkB g=true then 0 else 80))∧Below w.heap.size w w':=refchk_any g dA dc oA oc S w hI hTx
end
end Go.Proofs.YtkhmicndehlneaaGreatDoor
