/- Part 5 of the walks and plain laws that this claim uses, joined. Conditions: as each theorem states. -/
import Derived.Deep.CutBlock
import Derived.Deep.CutRange
import Derived.Outline
import Derived.Test.YtkhmicndehlneaaGreatDoorYrc
namespace Go.Proofs.YtkhmicndehlneaaGreatDoor
set_option maxRecDepth 100000
set_option maxHeartbeats 16000000
set_option linter.unusedVariables false
section
section
open Go.RowKit Go.Lib Go.Sort
attribute [local go_sem ↓] Go.wp_at_zero Go.wp_at_succ
theorem cn (w:World) (o:Obj) {n:Nat} (h:w.heap.size=n):(w.alloc o).heap[n]? =some o:=by subst h;exact an w o
theorem plain_x (k:Int) (c:¬k=0) (d:¬k=1) (f:¬k=2) (g:¬k=3) (h:¬k=4) (i j l o p q:Int) (a:ByteArray) (m:Bool) (r:Option Addr) (s t:Nat) (n u v x y z:Int) (b:ByteArray) (A:Option Addr) (B C:Nat) (w:World):
  Calls Tryz.prog 185 #[.agg #[k,i,j,l,o,p,q,a,m,.slice r s t,n,u,v,x,y,z,b,.slice A B C]] w λe w'=>e= .returned (.agg #[k,i,j,l,(0:Int),(0:Int),(0:Int),.string ⟨#[]⟩,false,.slice none 0 0,(0:Int),(0:Int),(0:Int),(0:Int),(0:Int),(0:Int),.string ⟨#[]⟩,.slice none 0 0])∧Below w.heap.size w w':=by
 have D:(k == 0)=false:=by rw[aL];exact c
 have E:(k == 1)=false:=by rw[aL];exact d
 have F:(k == 2)=false:=by rw[aL];exact f
 have G:(k == 3)=false:=by rw[aL];exact g
 have H:(k == 4)=false:=by rw[aL];exact h
 clear c d f g h;go_enter Tryz.func185,Tryz.ntmps185
 go_wp2_with (first
  |(refine bR rfl _ _ _ rfl _ _ _ _ rfl ?_ rfl ?_ ?_ ?_ ?_;(focus(simp;done));kernel_rfl;rfl;rfl)
  |(refine gR rfl _ _ _ rfl _ _ _ _ rfl ?_ rfl ?_ ?_ ?_ ?_;(focus(simp;done));kernel_rfl;rfl;rfl)
  |(refine ir rfl _ _ _ rfl _ _ _ _ _ _ rfl ?_ rfl ?_ ?_ ?_ rfl ?_;(focus(simp;done));kernel_rfl;decide;rfl)
  |(refine dF rfl _ _ rfl _ _ _ _ rfl ?_ am rfl ?_ ?_;(focus(simp;done));kernel_rfl))
 refine aU (bG rfl _ _ (w.heap.size+1) _ _ (0,0) _ rfl ((ax _ _ _ (by simp)).trans (cn _ _ (by simp))) am rfl (by kernel_rfl)) rfl ⟨rfl,?_⟩;exact(((ag _ _).alloc (aa _) _).alloc (by simp) _).alloc (by simp;omega) _
theorem bare_x (k:Int) (F:¬k=0) (G:¬k=1) (H:¬k=2) (I:¬k=3) (J:¬k=4) (l m n o p q:Int) (d:ByteArray) (i:Bool) (z:Option Addr) (f A:Nat) (j r s t u v:Int) (g:ByteArray) (B:Option Addr) (h C:Nat) (K L M N:Bool) (e1:∀w,(binOp .eql 108 (.agg #[(0:Int),(0:Int),(0:Int)]) (.agg #[o,p,q])).run Tryz.prog w= .ok (.bool K) w) (e3:∀w,(binOp .eql 4 (.bool false) (.bool i)).run Tryz.prog w= .ok (.bool L) w) (e4:∀w,(binOp .eql 108 (.agg #[(0:Int),(0:Int),(0:Int)]) (.agg #[j,r,s])).run Tryz.prog w= .ok (.bool M) w) (e5:∀w,(binOp .eql 108 (.agg #[(0:Int),(0:Int),(0:Int)]) (.agg #[t,u,v])).run Tryz.prog w= .ok (.bool N) w) (w:World):
    Calls Tryz.prog 149 #[.agg #[k,l,m,n,o,p,q,d,i,.slice z f A,j,r,s,t,u,v,g,.slice B h C]] w λe w'=>e= .returned (.bool (K && decide (d.toList=[]) && L && M && N && decide (g.toList=[]) && decide (f=0) && decide (h=0)))∧Below w.heap.size w w':=by
  have O:=hid (λw=>plain_x k F G H I J l m n o p q d i z f A j r s t u v g B h C w);clear F G H I J;go_enter Tryz.func149,Tryz.ntmps149
  go_upto_region 2 with(first
    |(go_at_call 185;refine(O.o _).mono ?_;rintro e D ⟨rfl,x⟩)
    |(refine bR rfl _ _ _ rfl _ _ _ _ rfl ?_ rfl ?_ ?_ ?_ ?_;(focus(simp;done));kernel_rfl;rfl;rfl)
    |(refine dF rfl _ _ rfl _ _ _ _ rfl ?_ am rfl ?_ ?_;(focus(simp;done));kernel_rfl))
  have E:D.heap[w.heap.size]? =some (.cells #[k,l,m,n,o,p,q,d,i,.slice z f A,j,r,s,t,u,v,g,.slice B h C] 125 (0,0)):=(x.block _ (by simp)).trans (an _ _);have P:w.heap.size<D.heap.size:=by have:=x.size;simp at this;omega
  generalize hW:D.alloc (.cells #[k,l,m,n,(0:Int),(0:Int),(0:Int),.string ⟨#[]⟩,false,.slice none 0 0,(0:Int),(0:Int),(0:Int),(0:Int),(0:Int),(0:Int),.string ⟨#[]⟩,.slice none 0 0] 125)=W;have a:W.heap[w.heap.size]? =some (.cells #[k,l,m,n,o,p,q,d,i,.slice z f A,j,r,s,t,u,v,g,.slice B h C] 125 (0,0)):=by subst hW;exact(ax _ _ _ P).trans E
  have b:W.heap[D.heap.size]? =some (.cells #[k,l,m,n,(0:Int),(0:Int),(0:Int),.string ⟨#[]⟩,false,.slice none 0 0,(0:Int),(0:Int),(0:Int),(0:Int),(0:Int),(0:Int),.string ⟨#[]⟩,.slice none 0 0] 125 (0,0)):=by subst hW;exact an _ _
  have R:Below w.heap.size w W:=by subst hW;exact(((ag _ _).alloc (aa _) _).trans (x.mono (by simp))).alloc (by omega) _
  clear hW E;have r4:=cw4 a;have s4:=cw4 b;have r5:=cw5 a;have s5:=cw5 b;have r6:=cw6 a;have s6:=cw6 b;have r7:=cw7 a;have s7:=cw7 b;have r8:=cw8 a;have s8:=cw8 b;have r9:=cw9 a;have s9:=cw9 b;have S:=cw10 a;have T:=cw10 b;have U:=cw11 a;have V:=cw11 b;have X:=cw12 a;have Y:=cw12 b;have Z:=cw13 a;have ab:=cw13 b;have ac:=cw14 a;have ad:=cw14 b;have ae:=cw15 a;have af:=cw15 b;have ah:=cw16 a;have aj:=cw16 b;have ak:=cw17 a;have al:=cw17 b;clear a b O;go_wp2
  all_goals
    go_ret;refine⟨dI ?_,R⟩
    first
      |(simp[*];done)
      | (have y:f=0:=by omega
         have c:((f:Int) == (h:Int))=decide (h=0):=by rw[bE,cf,au];omega
         rw[c,aI y];rename_i hz;clear hz y c
         simp[*];done)
      | (have c:((0:Int) == (h:Int))=decide (h=0):=by rw[bE,cf,au];omega
         rw[c];clear c
         simp[*];done)
      | (have c:((0:Int) == (f:Int))=decide (f=0):=by rw[bE,cf,au];omega
         rw[c];clear c
         simp[*];done)
      | (have y:f=0:=by omega
         rw[aI y];rename_i hz;clear hz y
         simp[*];done)
      | (have Q:¬f=0:=by omega
         rw[aC Q]
         simp;done)
theorem plain_2 (c d f l m n:Int) (a:ByteArray) (g:Bool) (h:Option Addr) (i j:Nat) (k o p q r s:Int) (b:ByteArray) (t:Option Addr) (u v:Nat) (w:World):
  Calls Tryz.prog 185 #[.agg #[(2:Int),c,d,f,l,m,n,a,g,.slice h i j,k,o,p,q,r,s,b,.slice t u v]] w λe w'=>e= .returned (.agg #[(2:Int),c,d,f,(0:Int),(0:Int),(0:Int),.string ⟨#[]⟩,false,.slice h i j,(0:Int),(0:Int),(0:Int),(0:Int),(0:Int),(0:Int),.string ⟨#[]⟩,.slice none 0 0])∧Below w.heap.size w w':=by
 go_enter Tryz.func185,Tryz.ntmps185
 go_wp2_with (first
  |(refine bR rfl _ _ _ rfl _ _ _ _ rfl ?_ rfl ?_ ?_ ?_ ?_;(focus(simp;done));kernel_rfl;rfl;rfl)
  |(refine gR rfl _ _ _ rfl _ _ _ _ rfl ?_ rfl ?_ ?_ ?_ ?_;(focus(simp;done));kernel_rfl;rfl;rfl)
  |(refine ir rfl _ _ _ rfl _ _ _ _ _ _ rfl ?_ rfl ?_ ?_ ?_ rfl ?_;(focus(simp;done));kernel_rfl;decide;rfl)
  |(refine dF rfl _ _ rfl _ _ _ _ rfl ?_ am rfl ?_ ?_;(focus(simp;done));kernel_rfl))
 refine aU (bG rfl _ _ (w.heap.size+1) _ _ (0,0) _ rfl ((ax _ _ _ (by simp)).trans (cn _ _ (by simp))) am rfl (by kernel_rfl)) rfl ⟨rfl,?_⟩;exact(((ag _ _).alloc (aa _) _).alloc (by simp) _).alloc (by simp;omega) _
theorem bare_2 (k l m p q r:Int) (f:ByteArray) (i:Bool) (n:Option Addr) (d o:Nat) (j s t u v x:Int) (g:ByteArray) (A:Option Addr) (h B:Nat) (E F G H:Bool) (e1:∀w,(binOp .eql 108 (.agg #[(0:Int),(0:Int),(0:Int)]) (.agg #[p,q,r])).run Tryz.prog w= .ok (.bool E) w) (e3:∀w,(binOp .eql 4 (.bool false) (.bool i)).run Tryz.prog w= .ok (.bool F) w) (e4:∀w,(binOp .eql 108 (.agg #[(0:Int),(0:Int),(0:Int)]) (.agg #[j,s,t])).run Tryz.prog w= .ok (.bool G) w) (e5:∀w,(binOp .eql 108 (.agg #[(0:Int),(0:Int),(0:Int)]) (.agg #[u,v,x])).run Tryz.prog w= .ok (.bool H) w) (w:World):
    Calls Tryz.prog 149 #[.agg #[(2:Int),k,l,m,p,q,r,f,i,.slice n d o,j,s,t,u,v,x,g,.slice A h B]] w λe w'=>e= .returned (.bool (E && decide (f.toList=[]) && F && G && H && decide (g.toList=[]) && decide (h=0)))∧Below w.heap.size w w':=by
  have I:=hid (λw=>plain_2 k l m p q r f i n d o j s t u v x g A h B w);go_enter Tryz.func149,Tryz.ntmps149
  go_upto_region 2 with(first
    |(go_at_call 185;refine(I.o _).mono ?_;rintro e C ⟨rfl,y⟩)
    |(refine bR rfl _ _ _ rfl _ _ _ _ rfl ?_ rfl ?_ ?_ ?_ ?_;(focus(simp;done));kernel_rfl;rfl;rfl)
    |(refine dF rfl _ _ rfl _ _ _ _ rfl ?_ am rfl ?_ ?_;(focus(simp;done));kernel_rfl))
  have D:C.heap[w.heap.size]? =some (.cells #[(2:Int),k,l,m,p,q,r,f,i,.slice n d o,j,s,t,u,v,x,g,.slice A h B] 125 (0,0)):=(y.block _ (by simp)).trans (an _ _);have J:w.heap.size<C.heap.size:=by have:=y.size;simp at this;omega
  generalize hW:C.alloc (.cells #[(2:Int),k,l,m,(0:Int),(0:Int),(0:Int),.string ⟨#[]⟩,false,.slice n d o,(0:Int),(0:Int),(0:Int),(0:Int),(0:Int),(0:Int),.string ⟨#[]⟩,.slice none 0 0] 125)=W;have a:W.heap[w.heap.size]? =some (.cells #[(2:Int),k,l,m,p,q,r,f,i,.slice n d o,j,s,t,u,v,x,g,.slice A h B] 125 (0,0)):=by subst hW;exact(ax _ _ _ J).trans D
  have b:W.heap[C.heap.size]? =some (.cells #[(2:Int),k,l,m,(0:Int),(0:Int),(0:Int),.string ⟨#[]⟩,false,.slice n d o,(0:Int),(0:Int),(0:Int),(0:Int),(0:Int),(0:Int),.string ⟨#[]⟩,.slice none 0 0] 125 (0,0)):=by subst hW;exact an _ _
  have L:Below w.heap.size w W:=by subst hW;exact(((ag _ _).alloc (aa _) _).trans (y.mono (by simp))).alloc (by omega) _
  clear hW D;have r4:=cw4 a;have s4:=cw4 b;have r5:=cw5 a;have s5:=cw5 b;have r6:=cw6 a;have s6:=cw6 b;have r7:=cw7 a;have s7:=cw7 b;have r8:=cw8 a;have s8:=cw8 b;have r9:=cw9 a;have s9:=cw9 b;have M:=cw10 a;have N:=cw10 b;have O:=cw11 a;have P:=cw11 b;have Q:=cw12 a;have R:=cw12 b;have S:=cw13 a;have T:=cw13 b;have U:=cw14 a;have V:=cw14 b;have X:=cw15 a;have Y:=cw15 b;have Z:=cw16 a;have ab:=cw16 b;have ac:=cw17 a;have ad:=cw17 b;clear a b I;go_wp2
  all_goals
    go_ret;refine⟨dI ?_,L⟩
    first
      |(simp[*];done)
      | (have z:d=0:=by omega
         have c:((d:Int) == (h:Int))=decide (h=0):=by rw[bE,cf,au];omega
         rw[c,aI z];rename_i hz;clear hz z c
         simp[*];done)
      | (have c:((0:Int) == (h:Int))=decide (h=0):=by rw[bE,cf,au];omega
         rw[c];clear c
         simp[*];done)
      | (have c:((0:Int) == (d:Int))=decide (d=0):=by rw[bE,cf,au];omega
         rw[c];clear c
         simp[*];done)
      | (have z:d=0:=by omega
         rw[aI z];rename_i hz;clear hz z
         simp[*];done)
      | (have K:¬d=0:=by omega
         rw[aC K]
         simp;done)
theorem plain_4 (c d f l m n:Int) (a:ByteArray) (g:Bool) (o:Option Addr) (p q:Nat) (h r s t u v:Int) (b:ByteArray) (i:Option Addr) (j k:Nat) (w:World):
  Calls Tryz.prog 185 #[.agg #[(4:Int),c,d,f,l,m,n,a,g,.slice o p q,h,r,s,t,u,v,b,.slice i j k]] w λe w'=>e= .returned (.agg #[(4:Int),c,d,f,(0:Int),(0:Int),(0:Int),.string ⟨#[]⟩,false,.slice none 0 0,(0:Int),(0:Int),(0:Int),(0:Int),(0:Int),(0:Int),.string ⟨#[]⟩,.slice i j k])∧Below w.heap.size w w':=by
 go_enter Tryz.func185,Tryz.ntmps185
 go_wp2_with (first
  |(refine bR rfl _ _ _ rfl _ _ _ _ rfl ?_ rfl ?_ ?_ ?_ ?_;(focus(simp;done));kernel_rfl;rfl;rfl)
  |(refine gR rfl _ _ _ rfl _ _ _ _ rfl ?_ rfl ?_ ?_ ?_ ?_;(focus(simp;done));kernel_rfl;rfl;rfl)
  |(refine ir rfl _ _ _ rfl _ _ _ _ _ _ rfl ?_ rfl ?_ ?_ ?_ rfl ?_;(focus(simp;done));kernel_rfl;decide;rfl)
  |(refine dF rfl _ _ rfl _ _ _ _ rfl ?_ am rfl ?_ ?_;(focus(simp;done));kernel_rfl))
 refine aU (bG rfl _ _ (w.heap.size+1) _ _ (0,0) _ rfl ((ax _ _ _ (by simp)).trans (cn _ _ (by simp))) am rfl (by kernel_rfl)) rfl ⟨rfl,?_⟩;exact(((ag _ _).alloc (aa _) _).alloc (by simp) _).alloc (by simp;omega) _
theorem bare_4 (k l m p q r:Int) (d:ByteArray) (i:Bool) (A:Option Addr) (f B:Nat) (j s t u v x:Int) (g:ByteArray) (n:Option Addr) (h o:Nat) (E F G H:Bool) (e1:∀w,(binOp .eql 108 (.agg #[(0:Int),(0:Int),(0:Int)]) (.agg #[p,q,r])).run Tryz.prog w= .ok (.bool E) w) (e3:∀w,(binOp .eql 4 (.bool false) (.bool i)).run Tryz.prog w= .ok (.bool F) w) (e4:∀w,(binOp .eql 108 (.agg #[(0:Int),(0:Int),(0:Int)]) (.agg #[j,s,t])).run Tryz.prog w= .ok (.bool G) w) (e5:∀w,(binOp .eql 108 (.agg #[(0:Int),(0:Int),(0:Int)]) (.agg #[u,v,x])).run Tryz.prog w= .ok (.bool H) w) (w:World):
    Calls Tryz.prog 149 #[.agg #[(4:Int),k,l,m,p,q,r,d,i,.slice A f B,j,s,t,u,v,x,g,.slice n h o]] w λe w'=>e= .returned (.bool (E && decide (d.toList=[]) && F && G && H && decide (g.toList=[]) && decide (f=0)))∧Below w.heap.size w w':=by
  have I:=hid (λw=>plain_4 k l m p q r d i A f B j s t u v x g n h o w);go_enter Tryz.func149,Tryz.ntmps149
  go_upto_region 2 with(first
    |(go_at_call 185;refine(I.o _).mono ?_;rintro e C ⟨rfl,y⟩)
    |(refine bR rfl _ _ _ rfl _ _ _ _ rfl ?_ rfl ?_ ?_ ?_ ?_;(focus(simp;done));kernel_rfl;rfl;rfl)
    |(refine dF rfl _ _ rfl _ _ _ _ rfl ?_ am rfl ?_ ?_;(focus(simp;done));kernel_rfl))
  have D:C.heap[w.heap.size]? =some (.cells #[(4:Int),k,l,m,p,q,r,d,i,.slice A f B,j,s,t,u,v,x,g,.slice n h o] 125 (0,0)):=(y.block _ (by simp)).trans (an _ _);have J:w.heap.size<C.heap.size:=by have:=y.size;simp at this;omega
  generalize hW:C.alloc (.cells #[(4:Int),k,l,m,(0:Int),(0:Int),(0:Int),.string ⟨#[]⟩,false,.slice none 0 0,(0:Int),(0:Int),(0:Int),(0:Int),(0:Int),(0:Int),.string ⟨#[]⟩,.slice n h o] 125)=W;have a:W.heap[w.heap.size]? =some (.cells #[(4:Int),k,l,m,p,q,r,d,i,.slice A f B,j,s,t,u,v,x,g,.slice n h o] 125 (0,0)):=by subst hW;exact(ax _ _ _ J).trans D
  have b:W.heap[C.heap.size]? =some (.cells #[(4:Int),k,l,m,(0:Int),(0:Int),(0:Int),.string ⟨#[]⟩,false,.slice none 0 0,(0:Int),(0:Int),(0:Int),(0:Int),(0:Int),(0:Int),.string ⟨#[]⟩,.slice n h o] 125 (0,0)):=by subst hW;exact an _ _
  have L:Below w.heap.size w W:=by subst hW;exact(((ag _ _).alloc (aa _) _).trans (y.mono (by simp))).alloc (by omega) _
  clear hW D;have r4:=cw4 a;have s4:=cw4 b;have r5:=cw5 a;have s5:=cw5 b;have r6:=cw6 a;have s6:=cw6 b;have r7:=cw7 a;have s7:=cw7 b;have r8:=cw8 a;have s8:=cw8 b;have r9:=cw9 a;have s9:=cw9 b;have M:=cw10 a;have N:=cw10 b;have O:=cw11 a;have P:=cw11 b;have Q:=cw12 a;have R:=cw12 b;have S:=cw13 a;have T:=cw13 b;have U:=cw14 a;have V:=cw14 b;have X:=cw15 a;have Y:=cw15 b;have Z:=cw16 a;have ab:=cw16 b;have ac:=cw17 a;have ad:=cw17 b;clear a b I;go_wp2
  all_goals
    go_ret;refine⟨dI ?_,L⟩
    first
      |(simp[*];done)
      | (have z:f=0:=by omega
         have c:((f:Int) == (h:Int))=decide (h=0):=by rw[bE,cf,au];omega
         rw[c,aI z];rename_i hz;clear hz z c
         simp[*];done)
      | (have c:((0:Int) == (h:Int))=decide (h=0):=by rw[bE,cf,au];omega
         rw[c];clear c
         simp[*];done)
      | (have c:((0:Int) == (f:Int))=decide (f=0):=by rw[bE,cf,au];omega
         rw[c];clear c
         simp[*];done)
      | (have z:f=0:=by omega
         rw[aI z];rename_i hz;clear hz z
         simp[*];done)
      | (have K:¬f=0:=by omega
         rw[aC K]
         simp;done)
end
section
open Go.RowKit Go.Lib Go.Sort
attribute [local go_sem ↓] Go.wp_at_zero Go.wp_at_succ
theorem gI (w:World) (o:Obj) {n:Nat} (h:w.heap.size=n):(w.alloc o).heap[n]? =some o:=by subst h;exact an w o
theorem plain_0 (f g h j k l:Int) (a:ByteArray) (c:Bool) (n:Option Addr) (o p:Nat) (m q r s t u:Int) (d:ByteArray) (v:Option Addr) (x y:Nat) (w:World):
  Calls Tryz.prog 185 #[.agg #[(0:Int),f,g,h,j,k,l,a,c,.slice n o p,m,q,r,s,t,u,d,.slice v x y]] w λe w'=>e= .returned (.agg #[(0:Int),f,g,h,j,k,l,a,c,.slice none 0 0,(0:Int),(0:Int),(0:Int),(0:Int),(0:Int),(0:Int),.string ⟨#[]⟩,.slice none 0 0])∧Below w.heap.size w w':=by
 go_enter Tryz.func185,Tryz.ntmps185
 go_wp2_with (first
  |(refine bR rfl _ _ _ rfl _ _ _ _ rfl ?_ rfl ?_ ?_ ?_ ?_;(focus(simp;done));kernel_rfl;rfl;rfl)
  |(refine gR rfl _ _ _ rfl _ _ _ _ rfl ?_ rfl ?_ ?_ ?_ ?_;(focus(simp;done));kernel_rfl;rfl;rfl)
  |(refine ir rfl _ _ _ rfl _ _ _ _ _ _ rfl ?_ rfl ?_ ?_ ?_ rfl ?_;(focus(simp;done));kernel_rfl;decide;rfl)
  |(refine dF rfl _ _ rfl _ _ _ _ rfl ?_ am rfl ?_ ?_;(focus(simp;done));kernel_rfl))
 generalize hW:((w.alloc (.cells #[(0:Int),f,g,h,j,k,l,a,c,.slice n o p,m,q,r,s,t,u,d,.slice v x y] 125)).alloc (.cells #[(0:Int),(0:Int),(0:Int),(0:Int),(0:Int),(0:Int),(0:Int),.string ⟨#[]⟩,false,.slice none 0 0,(0:Int),(0:Int),(0:Int),(0:Int),(0:Int),(0:Int),.string ⟨#[]⟩,.slice none 0 0] 125)).alloc (.cells #[(0:Int),f,g,h,(0:Int),(0:Int),(0:Int),.string ⟨#[]⟩,c,.slice none 0 0,(0:Int),(0:Int),(0:Int),(0:Int),(0:Int),(0:Int),.string ⟨#[]⟩,.slice none 0 0] 125)=W;have i:W.heap[w.heap.size]? =some (.cells #[(0:Int),f,g,h,j,k,l,a,c,.slice n o p,m,q,r,s,t,u,d,.slice v x y] 125 (0,0)):=by subst hW;exact(ax _ _ _ (by simp;omega)).trans ((ax _ _ _ (by simp)).trans (an _ _))
 have z:W.heap[w.heap.size+1]? =some (.cells #[(0:Int),(0:Int),(0:Int),(0:Int),(0:Int),(0:Int),(0:Int),.string ⟨#[]⟩,false,.slice none 0 0,(0:Int),(0:Int),(0:Int),(0:Int),(0:Int),(0:Int),.string ⟨#[]⟩,.slice none 0 0] 125 (0,0)):=by subst hW;exact(ax _ _ _ (by simp)).trans (gI _ _ (by simp))
 have b:W.heap[w.heap.size+1+1]? =some (.cells #[(0:Int),f,g,h,(0:Int),(0:Int),(0:Int),.string ⟨#[]⟩,c,.slice none 0 0,(0:Int),(0:Int),(0:Int),(0:Int),(0:Int),(0:Int),.string ⟨#[]⟩,.slice none 0 0] 125 (0,0)):=by subst hW;exact gI _ _ (by simp)
 have B:Below w.heap.size w W:=by subst hW;exact(((ag _ _).alloc (aa _) _).alloc (by simp) _).alloc (by simp;omega) _
 clear hW;have D:=cw4 i;have E:=cw4 b;have F:W.frozen? ⟨w.heap.size+1+1,4,none⟩=false:=aS _ _ _ _ _ b;have G:=cw5 i;have H:=cw5 b;have I:W.frozen? ⟨w.heap.size+1+1,5,none⟩=false:=aS _ _ _ _ _ b;have J:=cw6 i;have K:=cw6 b;have L:W.frozen? ⟨w.heap.size+1+1,6,none⟩=false:=aS _ _ _ _ _ b;have M:=cw7 i;have N:=cw7 b;have O:W.frozen? ⟨w.heap.size+1+1,7,none⟩=false:=aS _ _ _ _ _ b;have P:=hid i;have A:=hid z;have C:=hid b;clear i z b;go_region_held3 (λw'=>w'.cell? ⟨w.heap.size,4,none⟩=some (.int .i64 j)∧w'.cell? ⟨w.heap.size,5,none⟩=some (.int .i64 k)∧w'.cell? ⟨w.heap.size,6,none⟩=some (.int .i64 l)∧w'.cell? ⟨w.heap.size,7,none⟩=some (.string a)) ((refine⟨?_,?_,?_,?_⟩<;>((try rw[World.cell?_drew]);(repeat(refine(fh _ _ _ _ ?_).trans ?_;(focus(intro e;injection e with Q _;omega))));assumption))) (fail)
 all_goals
  go_wp2_with (first
   |(refine cd rfl _ _ rfl (w.heap.size+1+1) _ _ _ rfl (cI _ _ _ _ _ _ (cI _ _ _ _ _ _ (cI _ _ _ _ _ _ (cI _ _ _ _ _ _ C.o)))) am rfl ?_ ?_;kernel_rfl)
   |(refine bW rfl _ _ _ rfl (w.heap.size+1) _ _ _ rfl rfl ((bF _ _ _ _ (by simp)).trans ((bF _ _ _ _ (by simp)).trans ((bF _ _ _ _ (by simp)).trans ((bF _ _ _ _ (by simp)).trans A.o)))) ?_ ?_ ?_ ?_;kernel_rfl;rfl;rfl))
  refine aU (bG rfl _ _ (w.heap.size+1) _ _ (0,0) _ rfl (aF _ ((bF _ _ _ _ (by simp)).trans ((bF _ _ _ _ (by simp)).trans ((bF _ _ _ _ (by simp)).trans ((bF _ _ _ _ (by simp)).trans A.o))))) am rfl (by kernel_rfl)) rfl ⟨rfl,?_⟩;refine Below.setRow' ?_ (by omega) _;exact((((B.drew.setCell (by simp;omega) _).setCell (by simp;omega) _).setCell (by simp;omega) _).setCell (by simp;omega) _)
theorem bare_0 (n o p j k l:Int) (c:ByteArray) (h:Bool) (y:Option Addr) (f z:Nat) (m q r s t u:Int) (g:ByteArray) (A:Option Addr) (i B:Nat) (b1 b3 E F:Bool) (e4:∀w,(binOp .eql 108 (.agg #[(0:Int),(0:Int),(0:Int)]) (.agg #[m,q,r])).run Tryz.prog w= .ok (.bool E) w) (e5:∀w,(binOp .eql 108 (.agg #[(0:Int),(0:Int),(0:Int)]) (.agg #[s,t,u])).run Tryz.prog w= .ok (.bool F) w) (w:World):
    Calls Tryz.prog 149 #[.agg #[(0:Int),n,o,p,j,k,l,c,h,.slice y f z,m,q,r,s,t,u,g,.slice A i B]] w λe w'=>e= .returned (.bool (E && F && decide (g.toList=[]) && decide (f=0) && decide (i=0)))∧Below w.heap.size w w':=by
  have G:=hid (λw=>plain_0 n o p j k l c h y f z m q r s t u g A i B w);have e1:=eN j k l j k l true (Gid.eqb_iff.2 rfl);go_enter Tryz.func149,Tryz.ntmps149
  go_upto_region 2 with(first
    |(go_at_call 185;refine(G.o _).mono ?_;rintro e C ⟨rfl,v⟩)
    |(refine bR rfl _ _ _ rfl _ _ _ _ rfl ?_ rfl ?_ ?_ ?_ ?_;(focus(simp;done));kernel_rfl;rfl;rfl)
    |(refine dF rfl _ _ rfl _ _ _ _ rfl ?_ am rfl ?_ ?_;(focus(simp;done));kernel_rfl))
  have D:C.heap[w.heap.size]? =some (.cells #[(0:Int),n,o,p,j,k,l,c,h,.slice y f z,m,q,r,s,t,u,g,.slice A i B] 125 (0,0)):=(v.block _ (by simp)).trans (an _ _);have H:w.heap.size<C.heap.size:=by have:=v.size;simp at this;omega
  generalize hW:C.alloc (.cells #[(0:Int),n,o,p,j,k,l,c,h,.slice none 0 0,(0:Int),(0:Int),(0:Int),(0:Int),(0:Int),(0:Int),.string ⟨#[]⟩,.slice none 0 0] 125)=W;have a:W.heap[w.heap.size]? =some (.cells #[(0:Int),n,o,p,j,k,l,c,h,.slice y f z,m,q,r,s,t,u,g,.slice A i B] 125 (0,0)):=by subst hW;exact(ax _ _ _ H).trans D
  have b:W.heap[C.heap.size]? =some (.cells #[(0:Int),n,o,p,j,k,l,c,h,.slice none 0 0,(0:Int),(0:Int),(0:Int),(0:Int),(0:Int),(0:Int),.string ⟨#[]⟩,.slice none 0 0] 125 (0,0)):=by subst hW;exact an _ _
  have J:Below w.heap.size w W:=by subst hW;exact(((ag _ _).alloc (aa _) _).trans (v.mono (by simp))).alloc (by omega) _
  clear hW D;have r4:=cw4 a;have s4:=cw4 b;have r5:=cw5 a;have s5:=cw5 b;have r6:=cw6 a;have s6:=cw6 b;have r7:=cw7 a;have s7:=cw7 b;have r8:=cw8 a;have s8:=cw8 b;have r9:=cw9 a;have s9:=cw9 b;have K:=cw10 a;have L:=cw10 b;have M:=cw11 a;have N:=cw11 b;have O:=cw12 a;have P:=cw12 b;have Q:=cw13 a;have R:=cw13 b;have S:=cw14 a;have T:=cw14 b;have U:=cw15 a;have V:=cw15 b;have X:=cw16 a;have Y:=cw16 b;have Z:=cw17 a;have ab:=cw17 b;clear a b G;go_wp2
  all_goals
    go_ret;refine⟨dI ?_,J⟩
    first
      |(simp[*];done)
      | (have x:f=0:=by omega
         have d:((f:Int) == (i:Int))=decide (i=0):=by rw[bE,cf,au];omega
         rw[d,aI x];rename_i hz;clear hz x d
         simp[*];done)
      | (have d:((0:Int) == (i:Int))=decide (i=0):=by rw[bE,cf,au];omega
         rw[d];clear d
         simp[*];done)
      | (have d:((0:Int) == (f:Int))=decide (f=0):=by rw[bE,cf,au];omega
         rw[d];clear d
         simp[*];done)
      | (have x:f=0:=by omega
         rw[aI x];rename_i hz;clear hz x
         simp[*];done)
      | (have I:¬f=0:=by omega
         rw[aC I]
         simp;done)
theorem plain_1 (d f g i j k:Int) (a:ByteArray) (l:Bool) (n:Option Addr) (o p:Nat) (m q r s t u:Int) (c:ByteArray) (v:Option Addr) (x y:Nat) (w:World):
  Calls Tryz.prog 185 #[.agg #[(1:Int),d,f,g,i,j,k,a,l,.slice n o p,m,q,r,s,t,u,c,.slice v x y]] w λe w'=>e= .returned (.agg #[(1:Int),d,f,g,i,j,k,a,false,.slice none 0 0,(0:Int),(0:Int),(0:Int),(0:Int),(0:Int),(0:Int),.string ⟨#[]⟩,.slice none 0 0])∧Below w.heap.size w w':=by
 go_enter Tryz.func185,Tryz.ntmps185
 go_wp2_with (first
  |(refine bR rfl _ _ _ rfl _ _ _ _ rfl ?_ rfl ?_ ?_ ?_ ?_;(focus(simp;done));kernel_rfl;rfl;rfl)
  |(refine gR rfl _ _ _ rfl _ _ _ _ rfl ?_ rfl ?_ ?_ ?_ ?_;(focus(simp;done));kernel_rfl;rfl;rfl)
  |(refine ir rfl _ _ _ rfl _ _ _ _ _ _ rfl ?_ rfl ?_ ?_ ?_ rfl ?_;(focus(simp;done));kernel_rfl;decide;rfl)
  |(refine dF rfl _ _ rfl _ _ _ _ rfl ?_ am rfl ?_ ?_;(focus(simp;done));kernel_rfl))
 generalize hW:((w.alloc (.cells #[(1:Int),d,f,g,i,j,k,a,l,.slice n o p,m,q,r,s,t,u,c,.slice v x y] 125)).alloc (.cells #[(0:Int),(0:Int),(0:Int),(0:Int),(0:Int),(0:Int),(0:Int),.string ⟨#[]⟩,false,.slice none 0 0,(0:Int),(0:Int),(0:Int),(0:Int),(0:Int),(0:Int),.string ⟨#[]⟩,.slice none 0 0] 125)).alloc (.cells #[(1:Int),d,f,g,(0:Int),(0:Int),(0:Int),.string ⟨#[]⟩,false,.slice none 0 0,(0:Int),(0:Int),(0:Int),(0:Int),(0:Int),(0:Int),.string ⟨#[]⟩,.slice none 0 0] 125)=W;have h:W.heap[w.heap.size]? =some (.cells #[(1:Int),d,f,g,i,j,k,a,l,.slice n o p,m,q,r,s,t,u,c,.slice v x y] 125 (0,0)):=by subst hW;exact(ax _ _ _ (by simp;omega)).trans ((ax _ _ _ (by simp)).trans (an _ _))
 have z:W.heap[w.heap.size+1]? =some (.cells #[(0:Int),(0:Int),(0:Int),(0:Int),(0:Int),(0:Int),(0:Int),.string ⟨#[]⟩,false,.slice none 0 0,(0:Int),(0:Int),(0:Int),(0:Int),(0:Int),(0:Int),.string ⟨#[]⟩,.slice none 0 0] 125 (0,0)):=by subst hW;exact(ax _ _ _ (by simp)).trans (gI _ _ (by simp))
 have b:W.heap[w.heap.size+1+1]? =some (.cells #[(1:Int),d,f,g,(0:Int),(0:Int),(0:Int),.string ⟨#[]⟩,false,.slice none 0 0,(0:Int),(0:Int),(0:Int),(0:Int),(0:Int),(0:Int),.string ⟨#[]⟩,.slice none 0 0] 125 (0,0)):=by subst hW;exact gI _ _ (by simp)
 have B:Below w.heap.size w W:=by subst hW;exact(((ag _ _).alloc (aa _) _).alloc (by simp) _).alloc (by simp;omega) _
 clear hW;have D:=cw4 h;have E:=cw4 b;have F:W.frozen? ⟨w.heap.size+1+1,4,none⟩=false:=aS _ _ _ _ _ b;have G:=cw5 h;have H:=cw5 b;have I:W.frozen? ⟨w.heap.size+1+1,5,none⟩=false:=aS _ _ _ _ _ b;have J:=cw6 h;have K:=cw6 b;have L:W.frozen? ⟨w.heap.size+1+1,6,none⟩=false:=aS _ _ _ _ _ b;have M:=cw7 h;have N:=cw7 b;have O:W.frozen? ⟨w.heap.size+1+1,7,none⟩=false:=aS _ _ _ _ _ b;have P:=hid h;have A:=hid z;have C:=hid b;clear h z b;go_region_held3 (λw'=>w'.cell? ⟨w.heap.size,4,none⟩=some (.int .i64 i)∧w'.cell? ⟨w.heap.size,5,none⟩=some (.int .i64 j)∧w'.cell? ⟨w.heap.size,6,none⟩=some (.int .i64 k)∧w'.cell? ⟨w.heap.size,7,none⟩=some (.string a)) ((refine⟨?_,?_,?_,?_⟩<;>((try rw[World.cell?_drew]);(repeat(refine(fh _ _ _ _ ?_).trans ?_;(focus(intro e;injection e with Q _;omega))));assumption))) (fail)
 all_goals
  go_wp2_with (first
   |(refine cd rfl _ _ rfl (w.heap.size+1+1) _ _ _ rfl (cI _ _ _ _ _ _ (cI _ _ _ _ _ _ (cI _ _ _ _ _ _ (cI _ _ _ _ _ _ C.o)))) am rfl ?_ ?_;kernel_rfl)
   |(refine bW rfl _ _ _ rfl (w.heap.size+1) _ _ _ rfl rfl ((bF _ _ _ _ (by simp)).trans ((bF _ _ _ _ (by simp)).trans ((bF _ _ _ _ (by simp)).trans ((bF _ _ _ _ (by simp)).trans A.o)))) ?_ ?_ ?_ ?_;kernel_rfl;rfl;rfl))
  refine aU (bG rfl _ _ (w.heap.size+1) _ _ (0,0) _ rfl (aF _ ((bF _ _ _ _ (by simp)).trans ((bF _ _ _ _ (by simp)).trans ((bF _ _ _ _ (by simp)).trans ((bF _ _ _ _ (by simp)).trans A.o))))) am rfl (by kernel_rfl)) rfl ⟨rfl,?_⟩;refine Below.setRow' ?_ (by omega) _;exact((((B.drew.setCell (by simp;omega) _).setCell (by simp;omega) _).setCell (by simp;omega) _).setCell (by simp;omega) _)
theorem bare_1 (n o p i j k:Int) (c:ByteArray) (l:Bool) (y:Option Addr) (f z:Nat) (m q r s t u:Int) (g:ByteArray) (A:Option Addr) (h B:Nat) (b1 E F G:Bool) (e3:∀w,(binOp .eql 4 (.bool false) (.bool l)).run Tryz.prog w= .ok (.bool E) w) (e4:∀w,(binOp .eql 108 (.agg #[(0:Int),(0:Int),(0:Int)]) (.agg #[m,q,r])).run Tryz.prog w= .ok (.bool F) w) (e5:∀w,(binOp .eql 108 (.agg #[(0:Int),(0:Int),(0:Int)]) (.agg #[s,t,u])).run Tryz.prog w= .ok (.bool G) w) (w:World):
    Calls Tryz.prog 149 #[.agg #[(1:Int),n,o,p,i,j,k,c,l,.slice y f z,m,q,r,s,t,u,g,.slice A h B]] w λe w'=>e= .returned (.bool (E && F && G && decide (g.toList=[]) && decide (f=0) && decide (h=0)))∧Below w.heap.size w w':=by
  have H:=hid (λw=>plain_1 n o p i j k c l y f z m q r s t u g A h B w);have e1:=eN i j k i j k true (Gid.eqb_iff.2 rfl);go_enter Tryz.func149,Tryz.ntmps149
  go_upto_region 2 with(first
    |(go_at_call 185;refine(H.o _).mono ?_;rintro e C ⟨rfl,v⟩)
    |(refine bR rfl _ _ _ rfl _ _ _ _ rfl ?_ rfl ?_ ?_ ?_ ?_;(focus(simp;done));kernel_rfl;rfl;rfl)
    |(refine dF rfl _ _ rfl _ _ _ _ rfl ?_ am rfl ?_ ?_;(focus(simp;done));kernel_rfl))
  have D:C.heap[w.heap.size]? =some (.cells #[(1:Int),n,o,p,i,j,k,c,l,.slice y f z,m,q,r,s,t,u,g,.slice A h B] 125 (0,0)):=(v.block _ (by simp)).trans (an _ _);have I:w.heap.size<C.heap.size:=by have:=v.size;simp at this;omega
  generalize hW:C.alloc (.cells #[(1:Int),n,o,p,i,j,k,c,false,.slice none 0 0,(0:Int),(0:Int),(0:Int),(0:Int),(0:Int),(0:Int),.string ⟨#[]⟩,.slice none 0 0] 125)=W;have a:W.heap[w.heap.size]? =some (.cells #[(1:Int),n,o,p,i,j,k,c,l,.slice y f z,m,q,r,s,t,u,g,.slice A h B] 125 (0,0)):=by subst hW;exact(ax _ _ _ I).trans D
  have b:W.heap[C.heap.size]? =some (.cells #[(1:Int),n,o,p,i,j,k,c,false,.slice none 0 0,(0:Int),(0:Int),(0:Int),(0:Int),(0:Int),(0:Int),.string ⟨#[]⟩,.slice none 0 0] 125 (0,0)):=by subst hW;exact an _ _
  have K:Below w.heap.size w W:=by subst hW;exact(((ag _ _).alloc (aa _) _).trans (v.mono (by simp))).alloc (by omega) _
  clear hW D;have r4:=cw4 a;have s4:=cw4 b;have r5:=cw5 a;have s5:=cw5 b;have r6:=cw6 a;have s6:=cw6 b;have r7:=cw7 a;have s7:=cw7 b;have r8:=cw8 a;have s8:=cw8 b;have r9:=cw9 a;have s9:=cw9 b;have L:=cw10 a;have M:=cw10 b;have N:=cw11 a;have O:=cw11 b;have P:=cw12 a;have Q:=cw12 b;have R:=cw13 a;have S:=cw13 b;have T:=cw14 a;have U:=cw14 b;have V:=cw15 a;have X:=cw15 b;have Y:=cw16 a;have Z:=cw16 b;have ab:=cw17 a;have ac:=cw17 b;clear a b H;go_wp2
  all_goals
    go_ret;refine⟨dI ?_,K⟩
    first
      |(simp[*];done)
      | (have x:f=0:=by omega
         have d:((f:Int) == (h:Int))=decide (h=0):=by rw[bE,cf,au];omega
         rw[d,aI x];rename_i hz;clear hz x d
         simp[*];done)
      | (have d:((0:Int) == (h:Int))=decide (h=0):=by rw[bE,cf,au];omega
         rw[d];clear d
         simp[*];done)
      | (have d:((0:Int) == (f:Int))=decide (f=0):=by rw[bE,cf,au];omega
         rw[d];clear d
         simp[*];done)
      | (have x:f=0:=by omega
         rw[aI x];rename_i hz;clear hz x
         simp[*];done)
      | (have J:¬f=0:=by omega
         rw[aC J]
         simp;done)
end
section
open Go.RowKit Go.Lib Go.Sort
attribute [local go_sem ↓] Go.wp_at_zero Go.wp_at_succ
def PlCut (w:World) (c z:Array Value) (T:TypeId) (wx:World):Prop:=wx.heap[w.heap.size+1+1]? =some (.cells c T (0,0))∧wx.heap[w.heap.size+1]? =some (.cells z T (0,0))∧Below w.heap.size w wx
theorem drew_heap (w:World) (k:Nat):w.drew.heap[k]? =w.heap[k]? :=rfl
theorem bu (w:World) (o:Obj) {n:Nat} (h:w.heap.size=n):(w.alloc o).heap[n]? =some o:=by subst h;exact an w o
theorem plain_3 (f g h p q r:Int) (b:ByteArray) (j:Bool) (s:Option Addr) (t u:Nat) (c k l m n o:Int) (a:ByteArray) (v:Option Addr) (x y:Nat) (w:World):
  Calls Tryz.prog 185 #[.agg #[(3:Int),f,g,h,p,q,r,b,j,.slice s t u,c,k,l,m,n,o,a,.slice v x y]] w λe w'=>e= .returned (.agg #[(3:Int),f,g,h,(0:Int),(0:Int),(0:Int),.string ⟨#[]⟩,false,.slice none 0 0,c,k,l,m,n,o,a,.slice none 0 0])∧Below w.heap.size w w':=by
 go_enter Tryz.func185,Tryz.ntmps185
 go_upto_region 11 with(first
  |(refine bR rfl _ _ _ rfl _ _ _ _ rfl ?_ rfl ?_ ?_ ?_ ?_;(focus(simp;done));kernel_rfl;rfl;rfl)
  |(refine gR rfl _ _ _ rfl _ _ _ _ rfl ?_ rfl ?_ ?_ ?_ ?_;(focus(simp;done));kernel_rfl;rfl;rfl)
  |(refine ir rfl _ _ _ rfl _ _ _ _ _ _ rfl ?_ rfl ?_ ?_ ?_ rfl ?_;(focus(simp;done));kernel_rfl;decide;rfl)
  |(refine dF rfl _ _ rfl _ _ _ _ rfl ?_ am rfl ?_ ?_;(focus(simp;done));kernel_rfl))
 generalize hW:((w.alloc (.cells #[(3:Int),f,g,h,p,q,r,b,j,.slice s t u,c,k,l,m,n,o,a,.slice v x y] 125)).alloc (.cells #[(0:Int),(0:Int),(0:Int),(0:Int),(0:Int),(0:Int),(0:Int),.string ⟨#[]⟩,false,.slice none 0 0,(0:Int),(0:Int),(0:Int),(0:Int),(0:Int),(0:Int),.string ⟨#[]⟩,.slice none 0 0] 125)).alloc (.cells #[(3:Int),f,g,h,(0:Int),(0:Int),(0:Int),.string ⟨#[]⟩,false,.slice none 0 0,(0:Int),(0:Int),(0:Int),(0:Int),(0:Int),(0:Int),.string ⟨#[]⟩,.slice none 0 0] 125)=W;have C:W.heap[w.heap.size]? =some (.cells #[(3:Int),f,g,h,p,q,r,b,j,.slice s t u,c,k,l,m,n,o,a,.slice v x y] 125 (0,0)):=by subst hW;exact(ax _ _ _ (by simp;omega)).trans ((ax _ _ _ (by simp)).trans (an _ _))
 have D:W.heap[w.heap.size+1]? =some (.cells #[(0:Int),(0:Int),(0:Int),(0:Int),(0:Int),(0:Int),(0:Int),.string ⟨#[]⟩,false,.slice none 0 0,(0:Int),(0:Int),(0:Int),(0:Int),(0:Int),(0:Int),.string ⟨#[]⟩,.slice none 0 0] 125 (0,0)):=by subst hW;exact(ax _ _ _ (by simp)).trans (bu _ _ (by simp))
 have d:W.heap[w.heap.size+1+1]? =some (.cells #[(3:Int),f,g,h,(0:Int),(0:Int),(0:Int),.string ⟨#[]⟩,false,.slice none 0 0,(0:Int),(0:Int),(0:Int),(0:Int),(0:Int),(0:Int),.string ⟨#[]⟩,.slice none 0 0] 125 (0,0)):=by subst hW;exact bu _ _ (by simp)
 have G:Below w.heap.size w W:=by subst hW;exact(((ag _ _).alloc (aa _) _).alloc (by simp) _).alloc (by simp;omega) _
 clear hW;have H:∀i,W.cell? ⟨w.heap.size,i,none⟩=#[.int .i64 3,.int .i64 f,.int .i64 g,.int .i64 h,.int .i64 p,.int .i64 q,.int .i64 r,.string b,.bool j,.slice s t u,.int .i64 c,.int .i64 k,.int .i64 l,.int .i64 m,.int .i64 n,.int .i64 o,.string a,.slice v x y][i]? :=λi=>aG _ _ _ _ _ _ C;have K:=cw10 d;have L:=cw11 d;have M:=cw12 d;have N:=cw13 d;have O:=cw14 d;have P:=cw15 d;have Q:=cw16 d;have R:∀i,W.frozen? ⟨w.heap.size+1+1,i,none⟩=false:=λi=>aS _ _ _ _ _ d;have S:=hid C;have I:=hid D;have J:=hid d;clear C D d;go_cut [] (λwx=>PlCut w #[(3:Int),f,g,h,(0:Int),(0:Int),(0:Int),.string ⟨#[]⟩,false,.slice none 0 0,c,k,l,m,n,o,a,.slice none 0 0] #[(0:Int),(0:Int),(0:Int),(0:Int),(0:Int),(0:Int),(0:Int),.string ⟨#[]⟩,false,.slice none 0 0,(0:Int),(0:Int),(0:Int),(0:Int),(0:Int),(0:Int),.string ⟨#[]⟩,.slice none 0 0] 125 wx)
 case first=>
  go_region_held3 (λw'=>∀i,w'.cell? ⟨w.heap.size,i,none⟩=#[.int .i64 3,.int .i64 f,.int .i64 g,.int .i64 h,.int .i64 p,.int .i64 q,.int .i64 r,.string b,.bool j,.slice s t u,.int .i64 c,.int .i64 k,.int .i64 l,.int .i64 m,.int .i64 n,.int .i64 o,.string a,.slice v x y][i]?) ((intro i;(try rw[World.cell?_drew]);(repeat(refine(fh _ _ _ _ ?_).trans ?_;(focus(intro e;injection e with T _;omega))));exact H i)) (fail)
  all_goals(go_wp2_with fail;go_meet;refine⟨(drew_heap _ _).trans (Eq.trans (cI _ _ _ _ _ _ (cI _ _ _ _ _ _ (cI _ _ _ _ _ _ (cI _ _ _ _ _ _ (cI _ _ _ _ _ _ (cI _ _ _ _ _ _ (cI _ _ _ _ _ _ (J.o)))))))) (by simp)),(drew_heap _ _).trans ((bF _ _ _ _ (by simp)).trans ((bF _ _ _ _ (by simp)).trans ((bF _ _ _ _ (by simp)).trans ((bF _ _ _ _ (by simp)).trans ((bF _ _ _ _ (by simp)).trans ((bF _ _ _ _ (by simp)).trans ((bF _ _ _ _ (by simp)).trans (I.o)))))))),(((((((G.setCell (by simp;omega) _).setCell (by simp;omega) _).setCell (by simp;omega) _).setCell (by simp;omega) _).setCell (by simp;omega) _).setCell (by simp;omega) _).setCell (by simp;omega) _).drew⟩)
 case rest=>
  obtain⟨z,A,E⟩:=hcut;have F:=hid z;have B:=hid A;clear z A
  go_wp2_with (first
   |(refine lA F am ?_)
   |(refine bW rfl _ _ _ rfl (w.heap.size+1) _ _ _ rfl rfl B.o ?_ ?_ ?_ ?_;kernel_rfl;rfl;rfl))
  refine aU (bG rfl _ _ (w.heap.size+1) _ _ (0,0) _ rfl (aF _ B.o) am rfl (by kernel_rfl)) rfl ⟨rfl,?_⟩;exact Below.setRow' E (by omega) _
theorem bare_3 (p q r s t u:Int) (g:ByteArray) (j:Bool) (y:Option Addr) (h z:Nat) (d k l m n o:Int) (c:ByteArray) (A:Option Addr) (i B:Nat) (E F b4 b5:Bool) (e1:∀w,(binOp .eql 108 (.agg #[(0:Int),(0:Int),(0:Int)]) (.agg #[s,t,u])).run Tryz.prog w= .ok (.bool E) w) (e3:∀w,(binOp .eql 4 (.bool false) (.bool j)).run Tryz.prog w= .ok (.bool F) w) (w:World):
    Calls Tryz.prog 149 #[.agg #[(3:Int),p,q,r,s,t,u,g,j,.slice y h z,d,k,l,m,n,o,c,.slice A i B]] w λe w'=>e= .returned (.bool (E && decide (g.toList=[]) && F && decide (h=0) && decide (i=0)))∧Below w.heap.size w w':=by
  have G:=hid (λw=>plain_3 p q r s t u g j y h z d k l m n o c A i B w);have e4:=eN d k l d k l true (Gid.eqb_iff.2 rfl)
  have e5:=eN m n o m n o true (Gid.eqb_iff.2 rfl);go_enter Tryz.func149,Tryz.ntmps149
  go_upto_region 2 with(first
    |(go_at_call 185;refine(G.o _).mono ?_;rintro e C ⟨rfl,v⟩)
    |(refine bR rfl _ _ _ rfl _ _ _ _ rfl ?_ rfl ?_ ?_ ?_ ?_;(focus(simp;done));kernel_rfl;rfl;rfl)
    |(refine dF rfl _ _ rfl _ _ _ _ rfl ?_ am rfl ?_ ?_;(focus(simp;done));kernel_rfl))
  have D:C.heap[w.heap.size]? =some (.cells #[(3:Int),p,q,r,s,t,u,g,j,.slice y h z,d,k,l,m,n,o,c,.slice A i B] 125 (0,0)):=(v.block _ (by simp)).trans (an _ _);have H:w.heap.size<C.heap.size:=by have:=v.size;simp at this;omega
  generalize hW:C.alloc (.cells #[(3:Int),p,q,r,(0:Int),(0:Int),(0:Int),.string ⟨#[]⟩,false,.slice none 0 0,d,k,l,m,n,o,c,.slice none 0 0] 125)=W;have a:W.heap[w.heap.size]? =some (.cells #[(3:Int),p,q,r,s,t,u,g,j,.slice y h z,d,k,l,m,n,o,c,.slice A i B] 125 (0,0)):=by subst hW;exact(ax _ _ _ H).trans D
  have b:W.heap[C.heap.size]? =some (.cells #[(3:Int),p,q,r,(0:Int),(0:Int),(0:Int),.string ⟨#[]⟩,false,.slice none 0 0,d,k,l,m,n,o,c,.slice none 0 0] 125 (0,0)):=by subst hW;exact an _ _
  have J:Below w.heap.size w W:=by subst hW;exact(((ag _ _).alloc (aa _) _).trans (v.mono (by simp))).alloc (by omega) _
  clear hW D;have r4:=cw4 a;have s4:=cw4 b;have r5:=cw5 a;have s5:=cw5 b;have r6:=cw6 a;have s6:=cw6 b;have r7:=cw7 a;have s7:=cw7 b;have r8:=cw8 a;have s8:=cw8 b;have r9:=cw9 a;have s9:=cw9 b;have K:=cw10 a;have L:=cw10 b;have M:=cw11 a;have N:=cw11 b;have O:=cw12 a;have P:=cw12 b;have Q:=cw13 a;have R:=cw13 b;have S:=cw14 a;have T:=cw14 b;have U:=cw15 a;have V:=cw15 b;have X:=cw16 a;have Y:=cw16 b;have Z:=cw17 a;have ab:=cw17 b;clear a b G;go_wp2
  all_goals
    go_ret;refine⟨dI ?_,J⟩
    first
      |(simp[*];done)
      | (have x:h=0:=by omega
         have f:((h:Int) == (i:Int))=decide (i=0):=by rw[bE,cf,au];omega
         rw[f,aI x];rename_i hz;clear hz x f
         simp[*];done)
      | (have f:((0:Int) == (i:Int))=decide (i=0):=by rw[bE,cf,au];omega
         rw[f];clear f
         simp[*];done)
      | (have f:((0:Int) == (h:Int))=decide (h=0):=by rw[bE,cf,au];omega
         rw[f];clear f
         simp[*];done)
      | (have x:h=0:=by omega
         rw[aI x];rename_i hz;clear hz x
         simp[*];done)
      | (have I:¬h=0:=by omega
         rw[aC I]
         simp;done)
end
section
open Go.RowKit Go.Lib Go.Sort
theorem Gid.eqb_comm (a b:Gid):a.eqb b=b.eqb a:=by
 rw[bE,Gid.eqb_iff,Gid.eqb_iff];exact eq_comm
theorem fW (x:Gid) (w:World):(binOp .eql 108 (.agg #[(0:Int),(0:Int),(0:Int)]) (.agg #[.int .i64 x.s.t,.int .i64 x.s.r,.int .i64 x.i])).run Tryz.prog w= .ok (.bool x.none) w:=
 eN 0 0 0 x.s.t x.s.r x.i x.none (Gid.eqb_comm _ _) w
theorem eq_false (d:Bool) (w:World):(binOp .eql 4 (.bool false) (.bool d)).run Tryz.prog w= .ok (.bool (!d)) w:=by
 cases d<;>go_simp
theorem strl (s:ByteArray):s.toList=s.data.toList:=cw s
theorem iM (o:Gop) (x:OpX) (w:World):
  Calls Tryz.prog 149 #[.agg (opA o x)] w λe w'=>e= .returned (.bool (dZ o))∧Below w.heap.size w w':=by
 obtain⟨r,k,h,q,m,n,i,j,p,l⟩:=o;by_cases t:r=0
 ·subst t;refine(bare_0 k.s.t k.s.r k.i h.s.t h.s.r h.i q m x.dA n.length x.dc i.s.t i.s.r i.i j.s.t j.s.r j.i p x.eA l.length x.ec true true i.none j.none (fW i) (fW j) w).mono ?_;rintro e w' ⟨rfl,s⟩;refine⟨dI ?_,s⟩;simp only[dZ,strl];generalize i.none=a;generalize j.none=b;generalize decide (p.data.toList=[])=c;generalize decide (n.length=0)=d;generalize decide (l.length=0)=e;cases a<;>cases b<;>cases c<;>cases d<;>cases e<;>simp
 by_cases u:r=1
 ·subst u;refine(bare_1 k.s.t k.s.r k.i h.s.t h.s.r h.i q m x.dA n.length x.dc i.s.t i.s.r i.i j.s.t j.s.r j.i p x.eA l.length x.ec true (!m) i.none j.none (eq_false m) (fW i) (fW j) w).mono ?_;rintro e w' ⟨rfl,s⟩;refine⟨dI ?_,s⟩;simp only[dZ,strl];generalize i.none=a;generalize j.none=b;generalize decide (p.data.toList=[])=c;generalize decide (n.length=0)=d;generalize decide (l.length=0)=e;cases a<;>cases b<;>cases c<;>cases d<;>cases e<;>simp
 by_cases v:r=2
 ·subst v;refine(bare_2 k.s.t k.s.r k.i h.s.t h.s.r h.i q m x.dA n.length x.dc i.s.t i.s.r i.i j.s.t j.s.r j.i p x.eA l.length x.ec h.none (!m) i.none j.none (fW h) (eq_false m) (fW i) (fW j) w).mono ?_;rintro e w' ⟨rfl,s⟩;refine⟨dI ?_,s⟩;simp only[dZ,strl];generalize i.none=a;generalize j.none=b;generalize decide (p.data.toList=[])=c;generalize h.none=d;generalize decide (l.length=0)=e;generalize decide (q.data.toList=[])=f;cases a<;>cases b<;>cases c<;>cases d<;>cases e<;>cases f<;>simp
 by_cases y:r=3
 ·subst y;refine(bare_3 k.s.t k.s.r k.i h.s.t h.s.r h.i q m x.dA n.length x.dc i.s.t i.s.r i.i j.s.t j.s.r j.i p x.eA l.length x.ec h.none (!m) true true (fW h) (eq_false m) w).mono ?_;rintro e w' ⟨rfl,s⟩;refine⟨dI ?_,s⟩;simp only[dZ,strl];generalize decide (n.length=0)=a;generalize h.none=d;generalize decide (l.length=0)=e;generalize decide (q.data.toList=[])=f;cases a<;>cases d<;>cases e<;>cases f<;>simp
 by_cases z:r=4
 ·subst z;refine(bare_4 k.s.t k.s.r k.i h.s.t h.s.r h.i q m x.dA n.length x.dc i.s.t i.s.r i.i j.s.t j.s.r j.i p x.eA l.length x.ec h.none (!m) i.none j.none (fW h) (eq_false m) (fW i) (fW j) w).mono ?_;rintro e w' ⟨rfl,s⟩;refine⟨dI ?_,s⟩;simp only[dZ,strl];generalize i.none=a;generalize j.none=b;generalize decide (p.data.toList=[])=c;generalize h.none=d;generalize decide (n.length=0)=e;generalize decide (q.data.toList=[])=f;cases a<;>cases b<;>cases c<;>cases d<;>cases e<;>cases f<;>simp
 ·refine(bare_x r t u v y z k.s.t k.s.r k.i h.s.t h.s.r h.i q m x.dA n.length x.dc i.s.t i.s.r i.i j.s.t j.s.r j.i p x.eA l.length x.ec h.none (!m) i.none j.none (fW h) (eq_false m) (fW i) (fW j) w).mono ?_;rintro e w' ⟨rfl,s⟩;refine⟨dI ?_,s⟩;simp only[dZ,strl];generalize i.none=a;generalize j.none=b;generalize decide (p.data.toList=[])=c;generalize h.none=d;generalize decide (n.length=0)=e;generalize decide (q.data.toList=[])=f;generalize decide (l.length=0)=g;cases a<;>cases b<;>cases c<;>cases d<;>cases e<;>cases f<;>cases g<;>simp[t,u,v,y,z]
end
end
end Go.Proofs.YtkhmicndehlneaaGreatDoor
