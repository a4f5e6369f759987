/- Part 7 of the walks and plain laws that this claim uses, joined. Conditions: as each theorem states. -/
import Derived.Test.YtkhmicndehlneaaGreatDoorYre
import Derived.Test.YtkhmicndehlneaaGreatDoorYrf
namespace Go.Proofs.YtkhmicndehlneaaGreatDoor
set_option maxRecDepth 100000
set_option maxHeartbeats 16000000
set_option linter.unusedVariables false
section
section
open Go.RowKit Go.Lib Go.Sort
attribute [local go_sem ↓] Go.wp_at_zero Go.wp_at_succ
def OpEnd (b:Nat) (w:World) (ans:Bool) (k c:Nat) (w':World):Prop:=∃w2 v,Below w.heap.size w w2∧w'=w2.setCell ⟨b,7,none⟩ (.int .i64 v)∧(ans=true->v=(k:Int)+c)
theorem op_bare (b:Nat) (g:Gst) (k:Nat) (c:Int) (m n o p q r:Int) (d:ByteArray) (j:Bool) (f:List Gst) (l s t u v x:Int) (i:ByteArray) (a:List Gid) (y:Option Addr) (z:Nat) (A:Option Addr) (B:Nat) (w:World) (C:Chkr w b g k) (h:dZ (⟨c,⟨⟨m,n⟩,o⟩,⟨⟨p,q⟩,r⟩,d,j,f,⟨⟨l,s⟩,t⟩,⟨⟨u,v⟩,x⟩,i,a⟩:Gop)=false):
  Calls Tryz.prog 94 #[.pointer (some ⟨b,0,none⟩),.agg #[c,m,n,o,p,q,r,d,j,.slice y f.length z,l,s,t,u,v,x,i,.slice A a.length B]] w λe w'=>e= .returned (.bool false)∧Below w.heap.size w w':=by
 have E:Hid (∀w,Calls Tryz.prog 149 #[.agg #[c,m,n,o,p,q,r,d,j,.slice y f.length z,l,s,t,u,v,x,i,.slice A a.length B]] w λe w'=>e= .returned (.bool false)∧Below w.heap.size w w'):=hid (λw=>(iM (⟨c,⟨⟨m,n⟩,o⟩,⟨⟨p,q⟩,r⟩,d,j,f,⟨⟨l,s⟩,t⟩,⟨⟨u,v⟩,x⟩,i,a⟩:Gop) ⟨y,z,A,B⟩ w).mono (by rintro e w' ⟨rfl,F⟩;exact⟨by rw[h],F⟩));clear h;have G:=hid C;clear C;go_enter Tryz.func94,jW
 go_upto_region 2 with(first
  |(go_at_call 149;refine(E.o _).mono ?_;rintro e H ⟨rfl,D⟩)
  |(refine dF rfl _ _ rfl _ _ _ _ rfl ?_ am rfl ?_ ?_;(focus(simp;done));kernel_rfl))
 go_wp2;go_ret;refine⟨rfl,?_⟩;exact((ag _ _).alloc (aa _) _).trans (D.mono (by simp))
theorem op_x (b:Nat) (g:Gst) (k:Nat) (a:Int) (I:¬a=0) (J:¬a=1) (K:¬a=2) (L:¬a=3) (M:¬a=4) (m n o p q r:Int) (d:ByteArray) (j:Bool) (f:List Gst) (l s t u v x:Int) (i:ByteArray) (c:List Gid) (y:Option Addr) (z:Nat) (A:Option Addr) (B:Nat) (w:World) (D:Chkr w b g k) (h:dZ (⟨a,⟨⟨m,n⟩,o⟩,⟨⟨p,q⟩,r⟩,d,j,f,⟨⟨l,s⟩,t⟩,⟨⟨u,v⟩,x⟩,i,c⟩:Gop)=true):
  Calls Tryz.prog 94 #[.pointer (some ⟨b,0,none⟩),.agg #[a,m,n,o,p,q,r,d,j,.slice y f.length z,l,s,t,u,v,x,i,.slice A c.length B]] w λe w'=>e= .returned (.bool false)∧Below w.heap.size w w':=by
 have F:Hid (∀w,Calls Tryz.prog 149 #[.agg #[a,m,n,o,p,q,r,d,j,.slice y f.length z,l,s,t,u,v,x,i,.slice A c.length B]] w λe w'=>e= .returned (.bool true)∧Below w.heap.size w w'):=hid (λw=>(iM (⟨a,⟨⟨m,n⟩,o⟩,⟨⟨p,q⟩,r⟩,d,j,f,⟨⟨l,s⟩,t⟩,⟨⟨u,v⟩,x⟩,i,c⟩:Gop) ⟨y,z,A,B⟩ w).mono (by rintro e w' ⟨rfl,G⟩;exact⟨by rw[h],G⟩));clear h;have N:=hid D;clear D;go_enter Tryz.func94,jW
 go_upto_region 3 with(first
  |(go_at_call 149;refine(F.o _).mono ?_;rintro e H ⟨rfl,C⟩)
  |(refine dF rfl _ _ rfl _ _ _ _ rfl ?_ am rfl ?_ ?_;(focus(simp;done));kernel_rfl))
 have E:H.heap[w.heap.size]? =some (.cells #[a,m,n,o,p,q,r,d,j,.slice y f.length z,l,s,t,u,v,x,i,.slice A c.length B] 125 (0,0)):=(C.block _ (by simp)).trans (an _ _);have O:=cw0 E;go_wp2;go_ret;refine⟨rfl,?_⟩;exact((ag _ _).alloc (aa _) _).trans (C.mono (by simp))
theorem op_1 (b:Nat) (g:Gst) (k:Nat) (p q r j l m:Int) (a:ByteArray) (n:Bool) (f:List Gst) (o z A B C D:Int) (i:ByteArray) (c:List Gid) (K:Option Addr) (L:Nat) (M:Option Addr) (N:Nat) (w:World) (hC:Chkr w b g k) (hn:a.size<=maxLen) (h:dZ (⟨1,⟨⟨p,q⟩,r⟩,⟨⟨j,l⟩,m⟩,a,n,f,⟨⟨o,z⟩,A⟩,⟨⟨B,C⟩,D⟩,i,c⟩:Gop)=true):
  Calls Tryz.prog 94 #[.pointer (some ⟨b,0,none⟩),.agg #[(1:Int),p,q,r,j,l,m,a,n,.slice K f.length L,o,z,A,B,C,D,i,.slice M c.length N]] w λe w'=>e= .returned (.bool (dL g (⟨1,⟨⟨p,q⟩,r⟩,⟨⟨j,l⟩,m⟩,a,n,f,⟨⟨o,z⟩,A⟩,⟨⟨B,C⟩,D⟩,i,c⟩:Gop) k))∧Below w.heap.size w w':=by
 obtain⟨u,E⟩:∃v,v=dL g (⟨1,⟨⟨p,q⟩,r⟩,⟨⟨j,l⟩,m⟩,a,n,f,⟨⟨o,z⟩,A⟩,⟨⟨B,C⟩,D⟩,i,c⟩:Gop) k:=⟨_,rfl⟩;rw[<-E];have V:Hid (u=(de g ⟨⟨p,q⟩,r⟩ k && dK g ⟨⟨j,l⟩,m⟩ k && eC a)):=hid (by rw[E];simp[dL]);clear E;have HP:Hid (∀w,Calls Tryz.prog 149 #[.agg #[(1:Int),p,q,r,j,l,m,a,n,.slice K f.length L,o,z,A,B,C,D,i,.slice M c.length N]] w λe w'=>e= .returned (.bool true)∧Below w.heap.size w w'):=hid (λw=>(iM (⟨1,⟨⟨p,q⟩,r⟩,⟨⟨j,l⟩,m⟩,a,n,f,⟨⟨o,z⟩,A⟩,⟨⟨B,C⟩,D⟩,i,c⟩:Gop) ⟨K,L,M,N⟩ w).mono (by rintro e w' ⟨rfl,hB⟩;exact⟨by rw[h],hB⟩));clear h;have HC:=hid hC;clear hC;go_enter Tryz.func94,jW
 go_upto_region 3 with(first
  |(go_at_call 149;refine(HP.o _).mono ?_;rintro e O ⟨rfl,G⟩)
  |(refine dF rfl _ _ rfl _ _ _ _ rfl ?_ am rfl ?_ ?_;(focus(simp;done));kernel_rfl))
 have Q:O.heap[w.heap.size]? =some (.cells #[(1:Int),p,q,r,j,l,m,a,n,.slice K f.length L,o,z,A,B,C,D,i,.slice M c.length N] 125 (0,0)):=(G.block _ (by simp)).trans (an _ _);have R:Chkr O b g k:=(HC.o.alloc _).below G;have H:Below w.heap.size w O:=((ag _ _).alloc (aa _) _).trans (G.mono (by simp));have ab:w.heap.size<O.heap.size:=by have:=G.size;simp at this;omega
 have d:=hid Q;have x:=hid R;clear Q R;have r0:=cw0 d.o;have r1:=cw1 d.o;have r2:=cw2 d.o;have r3:=cw3 d.o;have W:=cw4 d.o;have X:=cw5 d.o;have Y:=cw6 d.o;have P:=cw7 d.o;have S:=hid (iy b g k ⟨⟨p,q⟩,r⟩);have T:=hid (kJ b g k ⟨⟨j,l⟩,m⟩);have ac:=hid (name_any a);go_wp2_with fail;refine(S.o _ x.o.t x.o.r x.o.k).mono ?_;rintro e w2 ⟨rfl,s⟩;cases F:de g ⟨⟨p,q⟩,r⟩ k with
 |false=>
  obtain rfl:u=false:=by rw[V.o,F];rfl
  go_wp2;go_ret;exact⟨rfl,H.trans (s.mono (by omega))⟩
 | true=>
  have I:Hid (u=(dK g ⟨⟨j,l⟩,m⟩ k && eC a)):=hid (by rw[V.o,F];simp);have t:=hid ((s.block _ ab).trans d.o);have U:=hid (x.o.below s);have J:Below w.heap.size w w2:=H.trans (s.mono (by omega));have Z:w.heap.size<w2.heap.size:=by have:=s.size;omega
  clear F V d x r0 r1 r2 r3 W X Y P S s H;have W:=cw4 t.o;have X:=cw5 t.o;have Y:=cw6 t.o;have P:=cw7 t.o;go_wp2_with fail;refine(T.o _ U.o).mono ?_;rintro e w3 ⟨rfl,y⟩;cases F:dK g ⟨⟨j,l⟩,m⟩ k with
  |false=>
   obtain rfl:u=false:=by rw[I.o,F];rfl
   go_wp2;go_ret;exact⟨rfl,J.trans (y.mono (by omega))⟩
  |true=>
   obtain rfl:u=eC a:=by rw[I.o,F];simp
   have ad:=hid ((y.block _ Z).trans t.o);have ae:Below w.heap.size w w3:=J.trans (y.mono (by omega));have ah:w.heap.size<w3.heap.size:=by have:=y.size;omega
   clear F I t U W X Y P T y J;have P:=cw7 ad.o;go_wp2_with fail;refine(ac.o _ (by simp only[maxLen] at hn;omega)).mono ?_;rintro e w4 ⟨rfl,af⟩;go_wp2;go_ret;exact⟨rfl,ae.trans (af.mono (by omega))⟩
theorem op_2 (b:Nat) (g:Gst) (k:Nat) (m n o r s t:Int) (d:ByteArray) (i:Bool) (a:List Gst) (j u x y z A:Int) (f:ByteArray) (c:List Gid) (D:Option Addr) (E:Nat) (H:Option Addr) (I:Nat) (S:Nat->Prop) (w:World) (Q:Chkr w b g k) (R:StsS w S D a) (hl:a.length<=maxLen) (h:dZ (⟨2,⟨⟨m,n⟩,o⟩,⟨⟨r,s⟩,t⟩,d,i,a,⟨⟨j,u⟩,x⟩,⟨⟨y,z⟩,A⟩,f,c⟩:Gop)=true):
  Calls Tryz.prog 94 #[.pointer (some ⟨b,0,none⟩),.agg #[(2:Int),m,n,o,r,s,t,d,i,.slice D a.length E,j,u,x,y,z,A,f,.slice H c.length I]] w λe w'=>e= .returned (.bool (dL g (⟨2,⟨⟨m,n⟩,o⟩,⟨⟨r,s⟩,t⟩,d,i,a,⟨⟨j,u⟩,x⟩,⟨⟨y,z⟩,A⟩,f,c⟩:Gop) k))∧Below w.heap.size w w':=by
 obtain⟨F,B⟩:∃v,v=dL g (⟨2,⟨⟨m,n⟩,o⟩,⟨⟨r,s⟩,t⟩,d,i,a,⟨⟨j,u⟩,x⟩,⟨⟨y,z⟩,A⟩,f,c⟩:Gop) k:=⟨_,rfl⟩;rw[<-B];have O:Hid (F=(de g ⟨⟨m,n⟩,o⟩ k && iq g a)):=hid (by rw[B];simp[dL]);clear B;have HD:=hid R;clear R;have HP:Hid (∀w,Calls Tryz.prog 149 #[.agg #[(2:Int),m,n,o,r,s,t,d,i,.slice D a.length E,j,u,x,y,z,A,f,.slice H c.length I]] w λe w'=>e= .returned (.bool true)∧Below w.heap.size w w'):=hid (λw=>(iM (⟨2,⟨⟨m,n⟩,o⟩,⟨⟨r,s⟩,t⟩,d,i,a,⟨⟨j,u⟩,x⟩,⟨⟨y,z⟩,A⟩,f,c⟩:Gop) ⟨D,E,H,I⟩ w).mono (by rintro e w' ⟨rfl,hB⟩;exact⟨by rw[h],hB⟩));clear h;have HC:=hid Q;clear Q;go_enter Tryz.func94,jW
 go_upto_region 3 with(first
  |(go_at_call 149;refine(HP.o _).mono ?_;rintro e J ⟨rfl,C⟩)
  |(refine dF rfl _ _ rfl _ _ _ _ rfl ?_ am rfl ?_ ?_;(focus(simp;done));kernel_rfl))
 have K:J.heap[w.heap.size]? =some (.cells #[(2:Int),m,n,o,r,s,t,d,i,.slice D a.length E,j,u,x,y,z,A,f,.slice H c.length I] 125 (0,0)):=(C.block _ (by simp)).trans (an _ _);have L:Chkr J b g k:=(HC.o.alloc _).below C;have G:Below w.heap.size w J:=((ag _ _).alloc (aa _) _).trans (C.mono (by simp));have T:w.heap.size<J.heap.size:=by have:=C.size;simp at this;omega
 have l:=hid K;have q:=hid L;clear K L;have r0:=cw0 l.o;have r1:=cw1 l.o;have r2:=cw2 l.o;have r3:=cw3 l.o;have U:=cw9 l.o;have M:=hid (iy b g k ⟨⟨m,n⟩,o⟩);have V:=hid (cdots_any b g k D E a S);go_wp2_with fail;refine(M.o _ q.o.t q.o.r q.o.k).mono ?_;rintro e W ⟨rfl,p⟩;cases P:de g ⟨⟨m,n⟩,o⟩ k with
 |false=>
  obtain rfl:F=false:=by rw[O.o,P];rfl
  go_wp2;go_ret;exact⟨rfl,G.trans (p.mono (by omega))⟩
 |true=>
  obtain rfl:F=iq g a:=by rw[O.o,P];simp
  have X:=hid ((p.block _ T).trans l.o);have Y:=hid (q.o.below p);have N:Below w.heap.size w W:=G.trans (p.mono (by omega));have ac:w.heap.size<W.heap.size:=by have:=p.size;omega
  have Z:=hid (RowG.agr HD.o (Agr.below N));clear P O l q r0 r1 r2 r3 U M p G;have U:=cw9 X.o;go_wp2_with fail;refine(V.o _ Y.o (by simp only[maxLen] at hl;omega) Z.o).mono ?_;rintro e w3 ⟨rfl,ab⟩;go_wp2;go_ret;exact⟨rfl,N.trans (ab.mono (by omega))⟩
theorem op_4 (b:Nat) (g:Gst) (k:Nat) (m n o r s t:Int) (c:ByteArray) (i:Bool) (d:List Gst) (j u x y z A:Int) (f:ByteArray) (a:List Gid) (H:Option Addr) (I:Nat) (D:Option Addr) (E:Nat) (S:Nat->Prop) (w:World) (R:Chkr w b g k) (T:IdsS w S D a) (hl:a.length<=maxLen) (h:dZ (⟨4,⟨⟨m,n⟩,o⟩,⟨⟨r,s⟩,t⟩,c,i,d,⟨⟨j,u⟩,x⟩,⟨⟨y,z⟩,A⟩,f,a⟩:Gop)=true):
  Calls Tryz.prog 94 #[.pointer (some ⟨b,0,none⟩),.agg #[(4:Int),m,n,o,r,s,t,c,i,.slice H d.length I,j,u,x,y,z,A,f,.slice D a.length E]] w λe w'=>e= .returned (.bool (dL g (⟨4,⟨⟨m,n⟩,o⟩,⟨⟨r,s⟩,t⟩,c,i,d,⟨⟨j,u⟩,x⟩,⟨⟨y,z⟩,A⟩,f,a⟩:Gop) k))∧Below w.heap.size w w':=by
 obtain⟨F,B⟩:∃v,v=dL g (⟨4,⟨⟨m,n⟩,o⟩,⟨⟨r,s⟩,t⟩,c,i,d,⟨⟨j,u⟩,x⟩,⟨⟨y,z⟩,A⟩,f,a⟩:Gop) k:=⟨_,rfl⟩;rw[<-B];have P:Hid (F=(de g ⟨⟨m,n⟩,o⟩ k && fT g a k)):=hid (by rw[B];simp[dL]);clear B;have HD:=hid T;clear T;have HP:Hid (∀w,Calls Tryz.prog 149 #[.agg #[(4:Int),m,n,o,r,s,t,c,i,.slice H d.length I,j,u,x,y,z,A,f,.slice D a.length E]] w λe w'=>e= .returned (.bool true)∧Below w.heap.size w w'):=hid (λw=>(iM (⟨4,⟨⟨m,n⟩,o⟩,⟨⟨r,s⟩,t⟩,c,i,d,⟨⟨j,u⟩,x⟩,⟨⟨y,z⟩,A⟩,f,a⟩:Gop) ⟨H,I,D,E⟩ w).mono (by rintro e w' ⟨rfl,hB⟩;exact⟨by rw[h],hB⟩));clear h;have HC:=hid R;clear R;go_enter Tryz.func94,jW
 go_upto_region 3 with(first
  |(go_at_call 149;refine(HP.o _).mono ?_;rintro e J ⟨rfl,C⟩)
  |(refine dF rfl _ _ rfl _ _ _ _ rfl ?_ am rfl ?_ ?_;(focus(simp;done));kernel_rfl))
 have K:J.heap[w.heap.size]? =some (.cells #[(4:Int),m,n,o,r,s,t,c,i,.slice H d.length I,j,u,x,y,z,A,f,.slice D a.length E] 125 (0,0)):=(C.block _ (by simp)).trans (an _ _);have L:Chkr J b g k:=(HC.o.alloc _).below C;have G:Below w.heap.size w J:=((ag _ _).alloc (aa _) _).trans (C.mono (by simp));have U:w.heap.size<J.heap.size:=by have:=C.size;simp at this;omega
 have l:=hid K;have q:=hid L;clear K L;have r0:=cw0 l.o;have r1:=cw1 l.o;have r2:=cw2 l.o;have r3:=cw3 l.o;have M:=cw17 l.o;have N:=hid (iy b g k ⟨⟨m,n⟩,o⟩);have V:=hid (celems_any b g k D E a S);go_wp2_with fail;refine(N.o _ q.o.t q.o.r q.o.k).mono ?_;rintro e W ⟨rfl,p⟩;cases Q:de g ⟨⟨m,n⟩,o⟩ k with
 |false=>
  obtain rfl:F=false:=by rw[P.o,Q];rfl
  go_wp2;go_ret;exact⟨rfl,G.trans (p.mono (by omega))⟩
 |true=>
  obtain rfl:F=fT g a k:=by rw[P.o,Q];simp
  have X:=hid ((p.block _ U).trans l.o);have Y:=hid (q.o.below p);have O:Below w.heap.size w W:=G.trans (p.mono (by omega));have ac:w.heap.size<W.heap.size:=by have:=p.size;omega
  have Z:=hid (RowG.agr HD.o (Agr.below O));clear Q P l q r0 r1 r2 r3 M N p G;have M:=cw17 X.o;go_wp2_with fail;refine(V.o _ Y.o (by simp only[maxLen] at hl;omega) Z.o).mono ?_;rintro e w3 ⟨rfl,ab⟩;go_wp2;go_ret;exact⟨rfl,O.trans (ab.mono (by omega))⟩
theorem op_0 (b:Nat) (i j:Int) (k:Nat) (hk:(k:Int)<9223372036854775807) (s t u x y z:Int) (a:ByteArray) (l:Bool) (f:List Gst) (m C D E F G:Int) (g:ByteArray) (c:List Gid) (P:Option Addr) (Q:Nat) (R:Option Addr) (S:Nat) (w:World) (hC:Chkr w b ⟨i,j⟩ k) (hF:w.frozen? ⟨b,7,none⟩=false) (hn:a.size<=maxLen) (h:dZ (⟨0,⟨⟨s,t⟩,u⟩,⟨⟨x,y⟩,z⟩,a,l,f,⟨⟨m,C⟩,D⟩,⟨⟨E,F⟩,G⟩,g,c⟩:Gop)=true):
  Calls Tryz.prog 94 #[.pointer (some ⟨b,0,none⟩),.agg #[(0:Int),s,t,u,x,y,z,a,l,.slice P f.length Q,m,C,D,E,F,G,g,.slice R c.length S]] w λe w'=>e= .returned (.bool (dL ⟨i,j⟩ (⟨0,⟨⟨s,t⟩,u⟩,⟨⟨x,y⟩,z⟩,a,l,f,⟨⟨m,C⟩,D⟩,⟨⟨E,F⟩,G⟩,g,c⟩:Gop) k))∧OpEnd b w (dL ⟨i,j⟩ (⟨0,⟨⟨s,t⟩,u⟩,⟨⟨x,y⟩,z⟩,a,l,f,⟨⟨m,C⟩,D⟩,⟨⟨E,F⟩,G⟩,g,c⟩:Gop) k) k 1 w':=by
 obtain⟨H,I⟩:∃v,v=dL ⟨i,j⟩ (⟨0,⟨⟨s,t⟩,u⟩,⟨⟨x,y⟩,z⟩,a,l,f,⟨⟨m,C⟩,D⟩,⟨⟨E,F⟩,G⟩,g,c⟩:Gop) k:=⟨_,rfl⟩;rw[<-I];have Z:Hid (H=(Gid.eqb ⟨⟨s,t⟩,u⟩ ⟨⟨i,j⟩,k⟩ && dK ⟨i,j⟩ ⟨⟨x,y⟩,z⟩ k && eC a)):=hid (by rw[I];simp[dL]);clear I;have HF:=hid hF;clear hF;have HP:Hid (∀w,Calls Tryz.prog 149 #[.agg #[(0:Int),s,t,u,x,y,z,a,l,.slice P f.length Q,m,C,D,E,F,G,g,.slice R c.length S]] w λe w'=>e= .returned (.bool true)∧Below w.heap.size w w'):=hid (λw=>(iM (⟨0,⟨⟨s,t⟩,u⟩,⟨⟨x,y⟩,z⟩,a,l,f,⟨⟨m,C⟩,D⟩,⟨⟨E,F⟩,G⟩,g,c⟩:Gop) ⟨P,Q,R,S⟩ w).mono (by rintro e w' ⟨rfl,hB⟩;exact⟨by rw[h],hB⟩));clear h;have T:=hid hC;clear hC;go_enter Tryz.func94,jW
 go_upto_region 3 with(first
  |(go_at_call 149;refine(HP.o _).mono ?_;rintro e B ⟨rfl,K⟩)
  |(refine dF rfl _ _ rfl _ _ _ _ rfl ?_ am rfl ?_ ?_;(focus(simp;done));kernel_rfl))
 have V:B.heap[w.heap.size]? =some (.cells #[(0:Int),s,t,u,x,y,z,a,l,.slice P f.length Q,m,C,D,E,F,G,g,.slice R c.length S] 125 (0,0)):=(K.block _ (by simp)).trans (an _ _);have W:Chkr B b ⟨i,j⟩ k:=(T.o.alloc _).below K;have O:Below w.heap.size w B:=((ag _ _).alloc (aa _) _).trans (K.mono (by simp));have ab:w.heap.size<B.heap.size:=by have:=K.size;simp at this;omega
 have n:=hid V;have o:=hid W;clear V W;have r0:=cw0 n.o;go_upto_region 5 with(fail);have x1:=rg1 n.o;have x2:=rg2 n.o;have x3:=rg3 n.o;have x4:=rg4 n.o;have x5:=rg5 n.o;have x6:=rg6 n.o;have x7:=rg7 n.o;have kt:=aj o.o.t;have kr:=aj o.o.r;have kk:=aj o.o.k;have U:=λd J=>ak (own_any b ⟨i,j⟩ k (grow (redrawn B d) J) (o.o.below (bL B d J)));have L:=λd J=>ak (kJ b ⟨i,j⟩ k ⟨⟨x,y⟩,z⟩ (grow (redrawn B d) J) (o.o.below (bL B d J)));have cN:=λd J=>ak (name_any a (grow (redrawn B d) J) (by simp only[maxLen] at hn;omega));simp only[idV] at U L;cases M:Gid.eqb ⟨⟨s,t⟩,u⟩ ⟨⟨i,j⟩,k⟩ with
 |false=>
  have he:=eN s t u i j k false M;obtain rfl:H=false:=by rw[Z.o,M];rfl
  clear M;refine rqb ?_
  repeat(any_goals(go_big_quiet_step (with_reducible first|exact U _ _|exact L _ _|exact cN _ _)))
  refine qz λA q=> ?_;have r:Below w.heap.size w A:=O.trans (q.mono (by omega));have kq:=(o.o.below q).k;have fq:A.frozen? ⟨b,7,none⟩=false:=by rw[r.frozen (p:=⟨b,7,none⟩) T.o.lt];exact HF.o
  have X:IntKind.i64.wrap ((k:Int)+1)=(k:Int)+1:=cH _ (by omega);go_wp2;go_ret;exact⟨rfl,A,_,r,rfl,λ_=>rfl⟩
 | true=>
  have he:=eN s t u i j k true M;have Y:Hid (H=(dK ⟨i,j⟩ ⟨⟨x,y⟩,z⟩ k && eC a)):=hid (by rw[Z.o,M];rfl);clear M Z;cases N:dK ⟨i,j⟩ ⟨⟨x,y⟩,z⟩ k with
  |false=>
   obtain rfl:H=false:=by rw[Y.o,N];rfl
   rw[N] at L;clear N;refine rqb ?_
   repeat(any_goals(go_big_quiet_step (with_reducible first|exact U _ _|exact L _ _|exact cN _ _)))
   refine qz λA q=> ?_;have r:Below w.heap.size w A:=O.trans (q.mono (by omega));have kq:=(o.o.below q).k;have fq:A.frozen? ⟨b,7,none⟩=false:=by rw[r.frozen (p:=⟨b,7,none⟩) T.o.lt];exact HF.o
   have X:IntKind.i64.wrap ((k:Int)+1)=(k:Int)+1:=cH _ (by omega);go_wp2;go_ret;exact⟨rfl,A,_,r,rfl,λ_=>rfl⟩
  |true=>
   obtain rfl:H=eC a:=by rw[Y.o,N];rfl
   rw[N] at L;clear N;refine rqb ?_
   repeat(any_goals(go_big_quiet_step (with_reducible first|exact U _ _|exact L _ _|exact cN _ _)))
   refine qz λA q=> ?_;have r:Below w.heap.size w A:=O.trans (q.mono (by omega));have kq:=(o.o.below q).k;have fq:A.frozen? ⟨b,7,none⟩=false:=by rw[r.frozen (p:=⟨b,7,none⟩) T.o.lt];exact HF.o
   have X:IntKind.i64.wrap ((k:Int)+1)=(k:Int)+1:=cH _ (by omega);go_wp2;go_ret;exact⟨rfl,A,_,r,rfl,λ_=>rfl⟩
theorem op_3n (b:Nat) (n o:Int) (k:Nat) (hk:(k:Int)+2000<9223372036854775807) (z A B F G H:Int) (g:ByteArray) (t:Bool) (i:List Gst) (j C D u x y:Int) (a:ByteArray) (c:List Gid) (X:Option Addr) (Y:Nat) (Z:Option Addr) (ec:Nat) (w:World) (hC:Chkr w b ⟨n,o⟩ k) (hF:w.frozen? ⟨b,7,none⟩=false) (hn:a.size<9223372036854775807) (ab:Tabs w) (K:cnt a.data.toList=none) (h:dZ (⟨3,⟨⟨z,A⟩,B⟩,⟨⟨F,G⟩,H⟩,g,t,i,⟨⟨j,C⟩,D⟩,⟨⟨u,x⟩,y⟩,a,c⟩:Gop)=true):
  Calls Tryz.prog 94 #[.pointer (some ⟨b,0,none⟩),.agg #[(3:Int),z,A,B,F,G,H,g,t,.slice X i.length Y,j,C,D,u,x,y,a,.slice Z c.length ec]] w λe w'=>e= .returned (.bool (dL ⟨n,o⟩ (⟨3,⟨⟨z,A⟩,B⟩,⟨⟨F,G⟩,H⟩,g,t,i,⟨⟨j,C⟩,D⟩,⟨⟨u,x⟩,y⟩,a,c⟩:Gop) k))∧OpEnd b w (dL ⟨n,o⟩ (⟨3,⟨⟨z,A⟩,B⟩,⟨⟨F,G⟩,H⟩,g,t,i,⟨⟨j,C⟩,D⟩,⟨⟨u,x⟩,y⟩,a,c⟩:Gop) k) k (runeCount a) w':=by
 obtain⟨I,L⟩:∃v,v=dL ⟨n,o⟩ (⟨3,⟨⟨z,A⟩,B⟩,⟨⟨F,G⟩,H⟩,g,t,i,⟨⟨j,C⟩,D⟩,⟨⟨u,x⟩,y⟩,a,c⟩:Gop) k:=⟨_,rfl⟩;rw[<-L];have HV:Hid (I=(de ⟨n,o⟩ ⟨⟨z,A⟩,B⟩ k && dK ⟨n,o⟩ ⟨⟨j,C⟩,D⟩ k && Gid.eqb ⟨⟨u,x⟩,y⟩ ⟨⟨n,o⟩,k⟩ && false)):=hid (by rw[L];simp[dL,textB,jq,K]);have af:Hid (∀w,Tabs w->Calls Tryz.prog 155 #[a] w λe w'=>e= .returned (.tuple #[(0:Int),(60:Int)])∧Below w.heap.size w w'):=hid (λw h=>len_bad a w hn h K);clear L K;have HF:=hid hF;have ah:=hid ab;clear hF ab;have HP:Hid (∀w,Calls Tryz.prog 149 #[.agg #[(3:Int),z,A,B,F,G,H,g,t,.slice X i.length Y,j,C,D,u,x,y,a,.slice Z c.length ec]] w λe w'=>e= .returned (.bool true)∧Below w.heap.size w w'):=hid (λw=>(iM (⟨3,⟨⟨z,A⟩,B⟩,⟨⟨F,G⟩,H⟩,g,t,i,⟨⟨j,C⟩,D⟩,⟨⟨u,x⟩,y⟩,a,c⟩:Gop) ⟨X,Y,Z,ec⟩ w).mono (by rintro e w' ⟨rfl,hB⟩;exact⟨by rw[h],hB⟩));clear h;have T:=hid hC;clear hC;go_enter Tryz.func94,jW
 go_upto_region 3 with(first
  |(go_at_call 149;refine(HP.o _).mono ?_;rintro e w1 ⟨rfl,J⟩)
  |(refine dF rfl _ _ rfl _ _ _ _ rfl ?_ am rfl ?_ ?_;(focus(simp;done));kernel_rfl))
 have ac:w1.heap[w.heap.size]? =some (.cells #[(3:Int),z,A,B,F,G,H,g,t,.slice X i.length Y,j,C,D,u,x,y,a,.slice Z c.length ec] 125 (0,0)):=(J.block _ (by simp)).trans (an _ _);have ad:Chkr w1 b ⟨n,o⟩ k:=(T.o.alloc _).below J;have U:Below w.heap.size w w1:=((ag _ _).alloc (aa _) _).trans (J.mono (by simp));have al:w.heap.size<w1.heap.size:=by have:=J.size;simp at this;omega
 have O:=hid ac;have ae:=hid ad;clear ac ad J;have r0:=cw0 O.o;have ao:=cw16 O.o;go_upto_region 14 with(go_at_call 155;refine(af.o _ (ah.o.below U)).mono ?_;rintro e w2 ⟨rfl,P⟩);have q:=hid ((P.block _ al).trans O.o);have f:=hid (ae.o.below P);have s:Below w.heap.size w w2:=U.trans (P.mono (by omega));clear O ae r0 ao P U;obtain⟨W,hW⟩:∃W,W=w2:=⟨_,rfl⟩;rw[<-hW] at q f s ⊢;clear hW;have x1:=rg1 q.o;have x2:=rg2 q.o;have x3:=rg3 q.o;have ap:=rg10 q.o;have aq:=rg11 q.o;have au:=rg12 q.o;have av:=rg13 q.o;have aw:=rg14 q.o;have ax:=rg15 q.o;have kt:=aj f.o.t;have kr:=aj f.o.r;have kk:=aj f.o.k;have M:=λd E=>ak (iy b ⟨n,o⟩ k ⟨⟨z,A⟩,B⟩ (grow (redrawn W d) E) (f.o.below (bL W d E)).t (f.o.below (bL W d E)).r (f.o.below (bL W d E)).k);have V:=λd E=>ak (own_any b ⟨n,o⟩ k (grow (redrawn W d) E) (f.o.below (bL W d E)));have N:=λd E=>ak (kJ b ⟨n,o⟩ k ⟨⟨j,C⟩,D⟩ (grow (redrawn W d) E) (f.o.below (bL W d E)));simp only[idV] at M V N;cases Q:de ⟨n,o⟩ ⟨⟨z,A⟩,B⟩ k with
 |false=>
  rw[Q] at M;obtain rfl:I=false:=by rw[HV.o,Q];simp
  clear Q;refine rqb ?_
  repeat(any_goals(go_big_quiet_step (with_reducible first|exact M _ _|exact V _ _|exact N _ _)))
  refine qz λr l=> ?_;have m:Below w.heap.size w r:=s.trans (l.mono (by have:=s.size;omega));have kq:=(f.o.below l).k;have fq:r.frozen? ⟨b,7,none⟩=false:=by rw[m.frozen (p:=⟨b,7,none⟩) T.o.lt];exact HF.o
  go_wp2;go_ret;exact⟨rfl,r,_,m,rfl,λh=>by cases h⟩
 | true=>
  rw[Q] at M;have H0:=hid Q;clear Q;cases R:dK ⟨n,o⟩ ⟨⟨j,C⟩,D⟩ k with
  |false=>
   rw[R] at N;obtain rfl:I=false:=by rw[HV.o,H0.o,R];simp
   clear R;refine rqb ?_
   repeat(any_goals(go_big_quiet_step (with_reducible first|exact M _ _|exact V _ _|exact N _ _)))
   refine qz λr l=> ?_;have m:Below w.heap.size w r:=s.trans (l.mono (by have:=s.size;omega));have kq:=(f.o.below l).k;have fq:r.frozen? ⟨b,7,none⟩=false:=by rw[m.frozen (p:=⟨b,7,none⟩) T.o.lt];exact HF.o
   go_wp2;go_ret;exact⟨rfl,r,_,m,rfl,λh=>by cases h⟩
  | true=>
   rw[R] at N;have H1:=hid R;clear R;cases S:Gid.eqb ⟨⟨u,x⟩,y⟩ ⟨⟨n,o⟩,k⟩ with
   |false=>
    have he:=eN u x y n o k false S;obtain rfl:I=false:=by rw[HV.o,H0.o,H1.o,S];simp
    clear S;refine rqb ?_
    repeat(any_goals(go_big_quiet_step (with_reducible first|exact M _ _|exact V _ _|exact N _ _)))
    refine qz λr l=> ?_;have m:Below w.heap.size w r:=s.trans (l.mono (by have:=s.size;omega));have kq:=(f.o.below l).k;have fq:r.frozen? ⟨b,7,none⟩=false:=by rw[m.frozen (p:=⟨b,7,none⟩) T.o.lt];exact HF.o
    go_wp2;go_ret;exact⟨rfl,r,_,m,rfl,λh=>by cases h⟩
   |true=>
    have he:=eN u x y n o k true S;have H2:=hid S;clear S;obtain rfl:I=false:=by rw[HV.o,H0.o,H1.o,H2.o];simp
    refine rqb ?_
    repeat(any_goals(go_big_quiet_step (with_reducible first|exact M _ _|exact V _ _|exact N _ _)))
    refine qz λr l=> ?_;have m:Below w.heap.size w r:=s.trans (l.mono (by have:=s.size;omega));have kq:=(f.o.below l).k;have fq:r.frozen? ⟨b,7,none⟩=false:=by rw[m.frozen (p:=⟨b,7,none⟩) T.o.lt];exact HF.o
    go_wp2;go_ret;exact⟨rfl,r,_,m,rfl,λh=>by cases h⟩
theorem op_3s (b:Nat) (r s:Int) (k:Nat) (hk:(k:Int)+2000<9223372036854775807) (A B C K L M:Int) (n:ByteArray) (u:Bool) (o:List Gst) (q D E x y z:Int) (a:ByteArray) (j:List Gid) (dA:Option Addr) (dc:Nat) (eA:Option Addr) (ec:Nat) (w:World) (hC:Chkr w b ⟨r,s⟩ k) (hF:w.frozen? ⟨b,7,none⟩=false) (hn:a.size<9223372036854775807) (ac:Tabs w) (m:Nat) (hm:(m:Int)<=9223372036854775807) (F:cnt a.data.toList=some m) (h:dZ (⟨3,⟨⟨A,B⟩,C⟩,⟨⟨K,L⟩,M⟩,n,u,o,⟨⟨q,D⟩,E⟩,⟨⟨x,y⟩,z⟩,a,j⟩:Gop)=true):
  Calls Tryz.prog 94 #[.pointer (some ⟨b,0,none⟩),.agg #[(3:Int),A,B,C,K,L,M,n,u,.slice dA o.length dc,q,D,E,x,y,z,a,.slice eA j.length ec]] w λe w'=>e= .returned (.bool (dL ⟨r,s⟩ (⟨3,⟨⟨A,B⟩,C⟩,⟨⟨K,L⟩,M⟩,n,u,o,⟨⟨q,D⟩,E⟩,⟨⟨x,y⟩,z⟩,a,j⟩:Gop) k))∧OpEnd b w (dL ⟨r,s⟩ (⟨3,⟨⟨A,B⟩,C⟩,⟨⟨K,L⟩,M⟩,n,u,o,⟨⟨q,D⟩,E⟩,⟨⟨x,y⟩,z⟩,a,j⟩:Gop) k) k (runeCount a) w':=by
 obtain⟨G,O⟩:∃v,v=dL ⟨r,s⟩ (⟨3,⟨⟨A,B⟩,C⟩,⟨⟨K,L⟩,M⟩,n,u,o,⟨⟨q,D⟩,E⟩,⟨⟨x,y⟩,z⟩,a,j⟩:Gop) k:=⟨_,rfl⟩;rw[<-O];have T:Hid (G=(de ⟨r,s⟩ ⟨⟨A,B⟩,C⟩ k && dK ⟨r,s⟩ ⟨⟨q,D⟩,E⟩ k && Gid.eqb ⟨⟨x,y⟩,z⟩ ⟨⟨r,s⟩,k⟩ && (decide (1<=m) && decide (m<=2000)))):=hid (by rw[O];simp[dL,textB,jq,F,js F]);have ah:Hid (∀w,Tabs w->Calls Tryz.prog 155 #[a] w λe w'=>e= .returned (.tuple #[.int .i64 (m:Nat),(0:Int)])∧Below w.heap.size w w'):=hid (λw h=>len_ok a m w hn h F);have al:=hid (js F);clear O F;have U:=hid hF;have ao:=hid ac;clear hF ac;have HP:Hid (∀w,Calls Tryz.prog 149 #[.agg #[(3:Int),A,B,C,K,L,M,n,u,.slice dA o.length dc,q,D,E,x,y,z,a,.slice eA j.length ec]] w λe w'=>e= .returned (.bool true)∧Below w.heap.size w w'):=hid (λw=>(iM (⟨3,⟨⟨A,B⟩,C⟩,⟨⟨K,L⟩,M⟩,n,u,o,⟨⟨q,D⟩,E⟩,⟨⟨x,y⟩,z⟩,a,j⟩:Gop) ⟨dA,dc,eA,ec⟩ w).mono (by rintro e w' ⟨rfl,hB⟩;exact⟨by rw[h],hB⟩));clear h;have P:=hid hC;clear hC;go_enter Tryz.func94,jW
 go_upto_region 3 with(first
  |(go_at_call 149;refine(HP.o _).mono ?_;rintro e w1 ⟨rfl,N⟩)
  |(refine dF rfl _ _ rfl _ _ _ _ rfl ?_ am rfl ?_ ?_;(focus(simp;done));kernel_rfl))
 have ad:w1.heap[w.heap.size]? =some (.cells #[(3:Int),A,B,C,K,L,M,n,u,.slice dA o.length dc,q,D,E,x,y,z,a,.slice eA j.length ec] 125 (0,0)):=(N.block _ (by simp)).trans (an _ _);have ae:Chkr w1 b ⟨r,s⟩ k:=(P.o.alloc _).below N;have ab:Below w.heap.size w w1:=((ag _ _).alloc (aa _) _).trans (N.mono (by simp));have ap:w.heap.size<w1.heap.size:=by have:=N.size;simp at this;omega
 have R:=hid ad;have af:=hid ae;clear ad ae N;have r0:=cw0 R.o;have aq:=cw16 R.o;go_upto_region 14 with(go_at_call 155;refine(ah.o _ (ao.o.below ab)).mono ?_;rintro e w2 ⟨rfl,S⟩);have t:=hid ((S.block _ ap).trans R.o);have g:=hid (af.o.below S);have l:Below w.heap.size w w2:=ab.trans (S.mono (by omega));clear R af r0 aq S ab;obtain⟨W,hW⟩:∃W,W=w2:=⟨_,rfl⟩;rw[<-hW] at t g l ⊢;clear hW;have x1:=rg1 t.o;have x2:=rg2 t.o;have x3:=rg3 t.o;have aw:=rg10 t.o;have ax:=rg11 t.o;have ay:=rg12 t.o;have az:=rg13 t.o;have aA:=rg14 t.o;have aB:=rg15 t.o;have kt:=aj g.o.t;have kr:=aj g.o.r;have kk:=aj g.o.k;have I:=λd H=>ak (iy b ⟨r,s⟩ k ⟨⟨A,B⟩,C⟩ (grow (redrawn W d) H) (g.o.below (bL W d H)).t (g.o.below (bL W d H)).r (g.o.below (bL W d H)).k);have Q:=λd H=>ak (own_any b ⟨r,s⟩ k (grow (redrawn W d) H) (g.o.below (bL W d H)));have J:=λd H=>ak (kJ b ⟨r,s⟩ k ⟨⟨q,D⟩,E⟩ (grow (redrawn W d) H) (g.o.below (bL W d H)));simp only[idV] at I Q J;cases V:de ⟨r,s⟩ ⟨⟨A,B⟩,C⟩ k with
 |false=>
  rw[V] at I;obtain rfl:G=false:=by rw[T.o,V];simp
  clear V;refine rqb ?_
  repeat(any_goals(go_big_quiet_step (with_reducible first|exact I _ _|exact Q _ _|exact J _ _)))
  refine qz λi c=> ?_;have f:Below w.heap.size w i:=l.trans (c.mono (by have:=l.size;omega));have kq:=(g.o.below c).k;have fq:i.frozen? ⟨b,7,none⟩=false:=by rw[f.frozen (p:=⟨b,7,none⟩) P.o.lt];exact U.o
  go_wp2;go_ret;exact⟨rfl,i,_,f,rfl,λh=>by cases h⟩
 | true=>
  rw[V] at I;have H0:=hid V;clear V;cases X:dK ⟨r,s⟩ ⟨⟨q,D⟩,E⟩ k with
  |false=>
   rw[X] at J;obtain rfl:G=false:=by rw[T.o,H0.o,X];simp
   clear X;refine rqb ?_
   repeat(any_goals(go_big_quiet_step (with_reducible first|exact I _ _|exact Q _ _|exact J _ _)))
   refine qz λi c=> ?_;have f:Below w.heap.size w i:=l.trans (c.mono (by have:=l.size;omega));have kq:=(g.o.below c).k;have fq:i.frozen? ⟨b,7,none⟩=false:=by rw[f.frozen (p:=⟨b,7,none⟩) P.o.lt];exact U.o
   go_wp2;go_ret;exact⟨rfl,i,_,f,rfl,λh=>by cases h⟩
  | true=>
   rw[X] at J;have H1:=hid X;clear X;cases Y:Gid.eqb ⟨⟨x,y⟩,z⟩ ⟨⟨r,s⟩,k⟩ with
   |false=>
    have he:=eN x y z r s k false Y;obtain rfl:G=false:=by rw[T.o,H0.o,H1.o,Y];simp
    clear Y;refine rqb ?_
    repeat(any_goals(go_big_quiet_step (with_reducible first|exact I _ _|exact Q _ _|exact J _ _)))
    refine qz λi c=> ?_;have f:Below w.heap.size w i:=l.trans (c.mono (by have:=l.size;omega));have kq:=(g.o.below c).k;have fq:i.frozen? ⟨b,7,none⟩=false:=by rw[f.frozen (p:=⟨b,7,none⟩) P.o.lt];exact U.o
    go_wp2;go_ret;exact⟨rfl,i,_,f,rfl,λh=>by cases h⟩
   | true=>
    have he:=eN x y z r s k true Y;have H2:=hid Y;clear Y;by_cases m1:1<=m
    rotate_left
    ·obtain rfl:m=0:=by omega
     obtain rfl:G=false:=by rw[T.o,H0.o,H1.o,H2.o];simp
     refine rqb ?_
     repeat(any_goals(go_big_quiet_step (with_reducible first|exact I _ _|exact Q _ _|exact J _ _)))
     refine qz λi c=> ?_;have f:Below w.heap.size w i:=l.trans (c.mono (by have:=l.size;omega));have kq:=(g.o.below c).k;have fq:i.frozen? ⟨b,7,none⟩=false:=by rw[f.frozen (p:=⟨b,7,none⟩) P.o.lt];exact U.o
     go_wp2;go_ret;exact⟨rfl,i,_,f,rfl,λh=>by cases h⟩
    have b1:decide (0<m)=true:=by rw[au];omega
    have b2:(1:Int)<=(m:Int):=by omega
    by_cases Z:m<=2000
    ·have b3:(m:Int)<=2000:=by omega
     obtain rfl:G=true:=by rw[T.o,H0.o,H1.o,H2.o];simp[m1,Z]
     have aC:IntKind.i64.wrap ((k:Int)+(m:Int))=(k:Int)+(m:Int):=cH _ (by omega);have HM:=hid m1;have av:=hid Z;clear m1 Z;refine rqb ?_
     repeat(any_goals(go_big_quiet_step (with_reducible first|exact I _ _|exact Q _ _|exact J _ _)))
     refine qz λi c=> ?_;have f:Below w.heap.size w i:=l.trans (c.mono (by have:=l.size;omega));have kq:=(g.o.below c).k;have fq:i.frozen? ⟨b,7,none⟩=false:=by rw[f.frozen (p:=⟨b,7,none⟩) P.o.lt];exact U.o
     go_wp2;go_ret;exact⟨rfl,i,_,f,rfl,λ_=>by rw[al.o]⟩
    ·have b3:¬(m:Int)<=2000:=by omega
     obtain rfl:G=false:=by rw[T.o,H0.o,H1.o,H2.o];simp[Z]
     have HM:=hid m1;have av:=hid Z;clear m1 Z;refine rqb ?_
     repeat(any_goals(go_big_quiet_step (with_reducible first|exact I _ _|exact Q _ _|exact J _ _)))
     refine qz λi c=> ?_;have f:Below w.heap.size w i:=l.trans (c.mono (by have:=l.size;omega));have kq:=(g.o.below c).k;have fq:i.frozen? ⟨b,7,none⟩=false:=by rw[f.frozen (p:=⟨b,7,none⟩) P.o.lt];exact U.o
     go_wp2;go_ret;exact⟨rfl,i,_,f,rfl,λh=>by cases h⟩
end
section
open Go.RowKit Go.Lib Go.Sort
def OpFin (b:Nat) (w:World) (ans:Bool) (k c:Nat) (w':World):Prop:=(Below w.heap.size w w'∧(ans=true->c=0))∨OpEnd b w ans k c w'
theorem OpFin.below {b:Nat} {w w':World} {a:Bool} {k c n:Nat} (h:OpFin b w a k c w') (e:n<=b) (d:n<=w.heap.size):Below n w w':=by
 rcases h with⟨h,-⟩|⟨w2,v,h,rfl,-⟩
 ·exact h.mono d
 ·exact(h.mono d).setCell e _
theorem OpFin.chkr {b:Nat} {w w':World} {k c:Nat} {g:Gst} (h:OpFin b w true k c w') (d:Chkr w b g k):Chkr w' b g (k+c):=by
 rcases h with⟨h,hc⟩|⟨w2,v,h,rfl,hv⟩
 ·rw[hc rfl];exact d.below h
 ·have a:=d.below h;refine⟨(fh _ _ _ _ (by simp)).trans a.t,(fh _ _ _ _ (by simp)).trans a.r,?_⟩;rw[World.cell?_setCell_same _ _ _ (by rw[a.k]),hv rfl];simp
theorem op_any (b:Nat) (g:Gst) (k:Nat) (hk:(k:Int)+2000<9223372036854775807) (o:Gop) (x:OpX) (S:Nat->Prop) (w:World) (E:Chkr w b g k) (V:w.frozen? ⟨b,7,none⟩=false) (J:OpIn w S o x) (W:o.text.size<9223372036854775807) (N:Tabs w):
  Calls Tryz.prog 94 #[.pointer (some ⟨b,0,none⟩),.agg (opA o x)] w λe w'=>e= .returned (.bool (opB g o k))∧OpFin b w (opB g o k) k (eY o) w':=by
 obtain⟨f,⟨⟨l,n⟩,p⟩,⟨⟨q,r⟩,s⟩,c,i,d,⟨⟨j,t⟩,u⟩,⟨⟨v,y⟩,z⟩,text,a⟩:=o;obtain⟨B,C⟩:=g;obtain⟨F,G,H,I⟩:=x;have O:=aP J.dle J.dmax;have P:=aP J.ele J.emax;have K:=J.name;have Q:=J.dots;have R:=J.elems;simp only at O P K Q R W;by_cases D:dZ ⟨f,⟨⟨l,n⟩,p⟩,⟨⟨q,r⟩,s⟩,c,i,d,⟨⟨j,t⟩,u⟩,⟨⟨v,y⟩,z⟩,text,a⟩=true
 rotate_left
 ·have T:dZ ⟨f,⟨⟨l,n⟩,p⟩,⟨⟨q,r⟩,s⟩,c,i,d,⟨⟨j,t⟩,u⟩,⟨⟨v,y⟩,z⟩,text,a⟩=false:=by simpa using D
  refine(op_bare b ⟨B,C⟩ k f l n p q r s c i d j t u v y z text a F G H I w E T).mono ?_;rintro e w' ⟨rfl,A⟩;have:opB ⟨B,C⟩ ⟨f,⟨⟨l,n⟩,p⟩,⟨⟨q,r⟩,s⟩,c,i,d,⟨⟨j,t⟩,u⟩,⟨⟨v,y⟩,z⟩,text,a⟩ k=false:=by unfold opB;rw[T];rfl
  rw[this];exact⟨rfl,.inl ⟨A,λh=>by cases h⟩⟩
 have ho:opB ⟨B,C⟩ ⟨f,⟨⟨l,n⟩,p⟩,⟨⟨q,r⟩,s⟩,c,i,d,⟨⟨j,t⟩,u⟩,⟨⟨v,y⟩,z⟩,text,a⟩ k=dL ⟨B,C⟩ ⟨f,⟨⟨l,n⟩,p⟩,⟨⟨q,r⟩,s⟩,c,i,d,⟨⟨j,t⟩,u⟩,⟨⟨v,y⟩,z⟩,text,a⟩ k:=by unfold opB;rw[D];rfl
 rw[ho];clear ho;by_cases L:f=0
 ·subst L;exact(op_0 b B C k (by omega) l n p q r s c i d j t u v y z text a F G H I w E V K D).mono (by rintro e w' ⟨rfl,A⟩;exact⟨rfl,.inr A⟩)
 by_cases M:f=3
 ·subst M;cases X:cnt text.data.toList with
  |none=>exact(op_3n b B C k hk l n p q r s c i d j t u v y z text a F G H I w E V W N X D).mono (by rintro e w' ⟨rfl,A⟩;exact⟨rfl,.inr A⟩)
  | some m=>
   have hm:(m:Int)<=9223372036854775807:=by
    have:=js X;have:=Lib.runeCount_le text;omega
   exact(op_3s b B C k hk l n p q r s c i d j t u v y z text a F G H I w E V W N m hm X D).mono (by rintro e w' ⟨rfl,A⟩;exact⟨rfl,.inr A⟩)
 have U:eY ⟨f,⟨⟨l,n⟩,p⟩,⟨⟨q,r⟩,s⟩,c,i,d,⟨⟨j,t⟩,u⟩,⟨⟨v,y⟩,z⟩,text,a⟩=0:=by simp[eY,L,M]
 rw[U];clear U;by_cases Y:f=1
 ·subst Y;exact(op_1 b ⟨B,C⟩ k l n p q r s c i d j t u v y z text a F G H I w E K D).mono (by rintro e w' ⟨rfl,A⟩;exact⟨rfl,.inl ⟨A,λ_=>rfl⟩⟩)
 by_cases Z:f=2
 ·subst Z;exact(op_2 b ⟨B,C⟩ k l n p q r s c i d j t u v y z text a F G H I S w E Q O D).mono (by rintro e w' ⟨rfl,A⟩;exact⟨rfl,.inl ⟨A,λ_=>rfl⟩⟩)
 by_cases k4:f=4
 ·subst k4;exact(op_4 b ⟨B,C⟩ k l n p q r s c i d j t u v y z text a F G H I S w E R P D).mono (by rintro e w' ⟨rfl,A⟩;exact⟨rfl,.inl ⟨A,λ_=>rfl⟩⟩)
 ·have:dL ⟨B,C⟩ ⟨f,⟨⟨l,n⟩,p⟩,⟨⟨q,r⟩,s⟩,c,i,d,⟨⟨j,t⟩,u⟩,⟨⟨v,y⟩,z⟩,text,a⟩ k=false:=by simp[dL,L,Y,Z,M,k4]
  rw[this];exact(op_x b ⟨B,C⟩ k f L Y Z M k4 l n p q r s c i d j t u v y z text a F G H I w E D).mono (by rintro e w' ⟨rfl,A⟩;exact⟨rfl,.inl ⟨A,λ_=>rfl⟩⟩)
end
section
open Go.RowKit Go.Lib Go.Sort
attribute [local go_sem ↓] Go.wp_at_zero Go.wp_at_succ
theorem check_head (t r n:Int) (v:List Int) (b c:Int) (ops:List Gop) (d:Option Addr) (a:Nat) (f:Option Addr) (g:Nat) (w:World) (o:v.length<=a) (p:a<=9223372036854775807) (q:i63 n) (k:VecR w d v)
  (l:fJ ⟨⟨t,r⟩,n,v,⟨b,c⟩,ops⟩=false):
  Calls Tryz.prog 48 #[.agg #[t,r,n,.slice d v.length a,b,c,.slice f ops.length g]] w λe w'=>e= .returned (.int .i64 80)∧Below w.heap.size w w':=by
 have s:Hid (∀W,Below w.heap.size w W->Calls Tryz.prog 91 #[.agg #[t,r,n,.slice d v.length a,b,c,.slice f ops.length g]] W λe w'=>e= .returned (.bool false)∧Below W.heap.size W w'):=
  hid (λW j=>(head_any ⟨⟨t,r⟩,n,v,⟨b,c⟩,ops⟩ d a f g W o p q (k.below j)).mono (by rintro e w' ⟨rfl,j⟩;exact⟨by rw[l],j⟩))
 clear l k;have h:Below w.heap.size w (w.alloc (.cells #[t,r,n,.slice d v.length a,b,c,.slice f ops.length g] 45)):=(ag _ _).alloc (aa _) _;have i:=hid h;clear h;go_enter Tryz.func48,Tryz.ntmps48;go_upto_region 2 with(first|(go_at_call 91;refine(s.o _ i.o).mono ?_;rintro e u ⟨rfl,m⟩));go_wp2;go_ret;exact⟨rfl,i.o.trans (m.mono (by simp))⟩
theorem check_undo (t r n:Int) (v:List Int) (a b:Int) (ops:List Gop) (l:Option Addr) (i:Nat) (p:Option Addr) (q:Nat) (w:World) (V:v.length<=i) (X:i<=9223372036854775807) (Y:i63 n) (L:VecR w l v)
  (M:fJ ⟨⟨t,r⟩,n,v,⟨a,b⟩,ops⟩=true) (N:Gst.eqb ⟨a,b⟩ ⟨0,0⟩=false) (z:Int) (O:z=if (Gst.right ⟨a,b⟩ && Gst.lt ⟨a,b⟩ ⟨t,r⟩ && decide (ops.length=0))=true then 0 else 80):
  Calls Tryz.prog 48 #[.agg #[t,r,n,.slice l v.length i,a,b,.slice p ops.length q]] w λe w'=>e= .returned (.int .i64 z)∧Below w.heap.size w w':=by
 have Z:Hid (∀W,Below w.heap.size w W->Calls Tryz.prog 91 #[.agg #[t,r,n,.slice l v.length i,a,b,.slice p ops.length q]] W λe w'=>e= .returned (.bool true)∧Below W.heap.size W w'):=
  hid (λW D=>(head_any ⟨⟨t,r⟩,n,v,⟨a,b⟩,ops⟩ l i p q W V X Y (L.below D)).mono (by rintro e w' ⟨rfl,D⟩;exact⟨by rw[M],D⟩))
 have s:=hid O;have ab:=ne_st a b 0 0 false N;have x:=hid (jZ a b);have y:=hid (cmp_any a b t r);clear M L O N;have A:Below w.heap.size w (w.alloc (.cells #[t,r,n,.slice l v.length i,a,b,.slice p ops.length q] 45)):=(ag _ _).alloc (aa _) _;have B:=hid A;clear A;go_enter Tryz.func48,Tryz.ntmps48;go_upto_region 3 with(first|(go_at_call 91;refine(Z.o _ B.o).mono ?_;rintro e P ⟨rfl,g⟩));have c:=hid ((g.block w.heap.size (by simp)).trans (an _ _));have m:Below w.heap.size w P:=B.o.trans (g.mono (by simp));have Q:w.heap.size<P.heap.size:=by have:=g.size;simp at this;omega
 clear g;have E:=cw0 c.o;have F:=cw1 c.o;have G:=cw4 c.o;have H:=cw5 c.o;have u:=cw6 c.o;go_wp2_with fail;refine(x.o _).mono ?_;rintro e R ⟨rfl,f⟩;cases I:Gst.right ⟨a,b⟩ with
 |false=>
  obtain rfl:z=80:=by rw[s.o,I];rfl
  go_wp2;go_ret;exact⟨rfl,m.trans (f.mono (by omega))⟩
 | true=>
  have J:=hid I;have d:=hid ((f.block _ Q).trans c.o);have o:Below w.heap.size w R:=m.trans (f.mono (by omega));have K:w.heap.size<R.heap.size:=by have:=f.size;omega
  clear I c E F G H u f m x;have E:=cw0 d.o;have F:=cw1 d.o;have G:=cw4 d.o;have H:=cw5 d.o;have u:=cw6 d.o;go_wp2_with fail;refine(y.o _).mono ?_;rintro e w3 ⟨rfl,h⟩;have S:=cmpS_ge ⟨a,b⟩ ⟨t,r⟩;cases j:Gst.lt ⟨a,b⟩ ⟨t,r⟩ with
  |false=>
   obtain rfl:z=80:=by rw[s.o,J.o,j];rfl
   rw[j] at S;clear j;go_wp2;go_ret;exact⟨rfl,o.trans (h.mono (by omega))⟩
  | true=>
   rw[j] at S;have T:=hid j;have U:=hid ((h.block _ K).trans d.o);have C:Below w.heap.size w w3:=o.trans (h.mono (by omega));clear j d E F G H u h o y;have u:=cw6 U.o;by_cases k:ops.length=0
   ·obtain rfl:z=0:=by rw[s.o,J.o,T.o,aI k];rfl
    have b1:decide (0<ops.length)=false:=by rw[aW];omega
    have H3:=hid k;clear k;go_wp2;go_ret;exact⟨rfl,C⟩
   ·obtain rfl:z=80:=by rw[s.o,J.o,T.o,aC k];rfl
    have b1:decide (0<ops.length)=true:=by rw[au];omega
    have H3:=hid k;clear k;go_wp2;go_ret;exact⟨rfl,C⟩
end
end
end Go.Proofs.YtkhmicndehlneaaGreatDoor
