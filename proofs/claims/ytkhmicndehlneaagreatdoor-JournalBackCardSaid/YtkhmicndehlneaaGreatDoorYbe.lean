/- Part 5 of the walks and plain laws that this claim uses, joined. Conditions: as each theorem states. -/
import Derived.Deep.CutBlock
import Derived.Deep.CutRange
import Derived.Test.YtkhmicndehlneaaGreatDoorYbb
namespace Go.Proofs.YtkhmicndehlneaaGreatDoor
set_option maxRecDepth 100000
set_option maxHeartbeats 16000000
set_option linter.unusedVariables false
section
section
open Go.RowKit Go.Lib Go.Sort
attribute [local go_sem ↓] Go.wp_at_zero Go.wp_at_succ
theorem cJ (w:World) (o:Obj) {n:Nat} (h:w.heap.size=n):(w.alloc o).heap[n]? =some o:=by subst h;exact am w o
theorem plain_x (k:Int) (h0:¬k=0) (h1:¬k=1) (h2:¬k=2) (h3:¬k=3) (h4:¬k=4) (nt nr ni pt pr pi:Int) (name:ByteArray) (dir:Bool) (dA:Option Addr) (dn dc:Nat) (at_ ar ai et er ei:Int) (text:ByteArray) (eA:Option Addr) (en ec:Nat) (w:World):
  Calls Tryz.prog 185 #[.agg #[k,nt,nr,ni,pt,pr,pi,name,dir,.slice dA dn dc,at_,ar,ai,et,er,ei,text,.slice eA en ec]] w λe w'=>e= .returned (.agg #[k,nt,nr,ni,(0:Int),(0:Int),(0:Int),.string ⟨#[]⟩,false,.slice none 0 0,(0:Int),(0:Int),(0:Int),(0:Int),(0:Int),(0:Int),.string ⟨#[]⟩,.slice none 0 0])∧Below w.heap.size w w':=by
 have a:(k == 0)=false:=by rw[aV];exact h0
 have b:(k == 1)=false:=by rw[aV];exact h1
 have c:(k == 2)=false:=by rw[aV];exact h2
 have d:(k == 3)=false:=by rw[aV];exact h3
 have f:(k == 4)=false:=by rw[aV];exact h4
 clear h0 h1 h2 h3 h4;go_enter Tryz.func185,Tryz.ntmps185
 go_wp2_with (first
  |(refine bM rfl _ _ _ rfl _ _ _ _ rfl ?_ rfl ?_ ?_ ?_ ?_;(focus(simp;done));kernel_rfl;rfl;rfl)
  |(refine gU rfl _ _ _ rfl _ _ _ _ rfl ?_ rfl ?_ ?_ ?_ ?_;(focus(simp;done));kernel_rfl;rfl;rfl)
  |(refine im rfl _ _ _ rfl _ _ _ _ _ _ rfl ?_ rfl ?_ ?_ ?_ rfl ?_;(focus(simp;done));kernel_rfl;decide;rfl)
  |(refine df rfl _ _ rfl _ _ _ _ rfl ?_ az rfl ?_ ?_;(focus(simp;done));kernel_rfl))
 refine bB (co rfl _ _ (w.heap.size+1) _ _ (0,0) _ rfl ((ax _ _ _ (by simp)).trans (cJ _ _ (by simp))) az rfl (by kernel_rfl)) rfl ⟨rfl,?_⟩;exact(((ag _ _).alloc (aa _) _).alloc (by simp) _).alloc (by simp;omega) _
theorem bare_x (k:Int) (h0:¬k=0) (h1:¬k=1) (h2:¬k=2) (h3:¬k=3) (h4:¬k=4) (nt nr ni pt pr pi:Int) (name:ByteArray) (dir:Bool) (dA:Option Addr) (dn dc:Nat) (at_ ar ai et er ei:Int) (text:ByteArray) (eA:Option Addr) (en ec:Nat) (b1 b3 b4 b5:Bool) (e1:∀w,(binOp .eql 108 (.agg #[(0:Int),(0:Int),(0:Int)]) (.agg #[pt,pr,pi])).run Tryz.prog w= .ok (.bool b1) w) (e3:∀w,(binOp .eql 4 (.bool false) (.bool dir)).run Tryz.prog w= .ok (.bool b3) w) (e4:∀w,(binOp .eql 108 (.agg #[(0:Int),(0:Int),(0:Int)]) (.agg #[at_,ar,ai])).run Tryz.prog w= .ok (.bool b4) w) (e5:∀w,(binOp .eql 108 (.agg #[(0:Int),(0:Int),(0:Int)]) (.agg #[et,er,ei])).run Tryz.prog w= .ok (.bool b5) w) (w:World):
    Calls Tryz.prog 149 #[.agg #[k,nt,nr,ni,pt,pr,pi,name,dir,.slice dA dn dc,at_,ar,ai,et,er,ei,text,.slice eA en ec]] w λe w'=>e= .returned (.bool (b1 && decide (name.toList=[]) && b3 && b4 && b5 && decide (text.toList=[]) && decide (dn=0) && decide (en=0)))∧Below w.heap.size w w':=by
  have i:=hid (λw=>plain_x k h0 h1 h2 h3 h4 nt nr ni pt pr pi name dir dA dn dc at_ ar ai et er ei text eA en ec w);clear h0 h1 h2 h3 h4;go_enter Tryz.func149,Tryz.ntmps149
  go_upto_region 2 with(first
    |(go_at_call 185;refine(i.out _).mono ?_;rintro e g ⟨rfl,d⟩)
    |(refine bM rfl _ _ _ rfl _ _ _ _ rfl ?_ rfl ?_ ?_ ?_ ?_;(focus(simp;done));kernel_rfl;rfl;rfl)
    |(refine df rfl _ _ rfl _ _ _ _ rfl ?_ az rfl ?_ ?_;(focus(simp;done));kernel_rfl))
  have h:g.heap[w.heap.size]? =some (.cells #[k,nt,nr,ni,pt,pr,pi,name,dir,.slice dA dn dc,at_,ar,ai,et,er,ei,text,.slice eA en ec] 125 (0,0)):=(d.block _ (by simp)).trans (am _ _);have j:w.heap.size<g.heap.size:=by have:=d.size;simp at this;omega
  generalize hW:g.alloc (.cells #[k,nt,nr,ni,(0:Int),(0:Int),(0:Int),.string ⟨#[]⟩,false,.slice none 0 0,(0:Int),(0:Int),(0:Int),(0:Int),(0:Int),(0:Int),.string ⟨#[]⟩,.slice none 0 0] 125)=W;have a:W.heap[w.heap.size]? =some (.cells #[k,nt,nr,ni,pt,pr,pi,name,dir,.slice dA dn dc,at_,ar,ai,et,er,ei,text,.slice eA en ec] 125 (0,0)):=by subst hW;exact(ax _ _ _ j).trans h
  have b:W.heap[g.heap.size]? =some (.cells #[k,nt,nr,ni,(0:Int),(0:Int),(0:Int),.string ⟨#[]⟩,false,.slice none 0 0,(0:Int),(0:Int),(0:Int),(0:Int),(0:Int),(0:Int),.string ⟨#[]⟩,.slice none 0 0] 125 (0,0)):=by subst hW;exact am _ _
  have m:Below w.heap.size w W:=by subst hW;exact(((ag _ _).alloc (aa _) _).trans (d.mono (by simp))).alloc (by omega) _
  clear hW h;have E:=cw4 a;have F:=cw4 b;have G:=cw5 a;have H:=cw5 b;have I:=cw6 a;have J:=cw6 b;have K:=cw7 a;have L:=cw7 b;have M:=cw8 a;have N:=cw8 b;have O:=cw9 a;have P:=cw9 b;have n:=cw10 a;have o:=cw10 b;have p:=cw11 a;have q:=cw11 b;have r:=cw12 a;have s:=cw12 b;have t:=cw13 a;have u:=cw13 b;have v:=cw14 a;have x:=cw14 b;have y:=cw15 a;have z:=cw15 b;have A:=cw16 a;have B:=cw16 b;have C:=cw17 a;have D:=cw17 b;clear a b i;go_wp2
  all_goals
    go_ret;refine⟨dk ?_,m⟩
    first
      |(simp[*];done)
      | (have f:dn=0:=by omega
         have c:((dn:Int) == (en:Int))=decide (en=0):=by rw[bw,ce,ak];omega
         rw[c,aN f];rename_i hz;clear hz f c
         simp[*];done)
      | (have c:((0:Int) == (en:Int))=decide (en=0):=by rw[bw,ce,ak];omega
         rw[c];clear c
         simp[*];done)
      | (have c:((0:Int) == (dn:Int))=decide (dn=0):=by rw[bw,ce,ak];omega
         rw[c];clear c
         simp[*];done)
      | (have f:dn=0:=by omega
         rw[aN f];rename_i hz;clear hz f
         simp[*];done)
      | (have l:¬dn=0:=by omega
         rw[aE l]
         simp;done)
theorem plain_2 (nt nr ni pt pr pi:Int) (name:ByteArray) (dir:Bool) (dA:Option Addr) (dn dc:Nat) (at_ ar ai et er ei:Int) (text:ByteArray) (eA:Option Addr) (en ec:Nat) (w:World):
  Calls Tryz.prog 185 #[.agg #[(2:Int),nt,nr,ni,pt,pr,pi,name,dir,.slice dA dn dc,at_,ar,ai,et,er,ei,text,.slice eA en ec]] w λe w'=>e= .returned (.agg #[(2:Int),nt,nr,ni,(0:Int),(0:Int),(0:Int),.string ⟨#[]⟩,false,.slice dA dn dc,(0:Int),(0:Int),(0:Int),(0:Int),(0:Int),(0:Int),.string ⟨#[]⟩,.slice none 0 0])∧Below w.heap.size w w':=by
 go_enter Tryz.func185,Tryz.ntmps185
 go_wp2_with (first
  |(refine bM rfl _ _ _ rfl _ _ _ _ rfl ?_ rfl ?_ ?_ ?_ ?_;(focus(simp;done));kernel_rfl;rfl;rfl)
  |(refine gU rfl _ _ _ rfl _ _ _ _ rfl ?_ rfl ?_ ?_ ?_ ?_;(focus(simp;done));kernel_rfl;rfl;rfl)
  |(refine im rfl _ _ _ rfl _ _ _ _ _ _ rfl ?_ rfl ?_ ?_ ?_ rfl ?_;(focus(simp;done));kernel_rfl;decide;rfl)
  |(refine df rfl _ _ rfl _ _ _ _ rfl ?_ az rfl ?_ ?_;(focus(simp;done));kernel_rfl))
 refine bB (co rfl _ _ (w.heap.size+1) _ _ (0,0) _ rfl ((ax _ _ _ (by simp)).trans (cJ _ _ (by simp))) az rfl (by kernel_rfl)) rfl ⟨rfl,?_⟩;exact(((ag _ _).alloc (aa _) _).alloc (by simp) _).alloc (by simp;omega) _
theorem bare_2 (nt nr ni pt pr pi:Int) (name:ByteArray) (dir:Bool) (dA:Option Addr) (dn dc:Nat) (at_ ar ai et er ei:Int) (text:ByteArray) (eA:Option Addr) (en ec:Nat) (b1 b3 b4 b5:Bool) (e1:∀w,(binOp .eql 108 (.agg #[(0:Int),(0:Int),(0:Int)]) (.agg #[pt,pr,pi])).run Tryz.prog w= .ok (.bool b1) w) (e3:∀w,(binOp .eql 4 (.bool false) (.bool dir)).run Tryz.prog w= .ok (.bool b3) w) (e4:∀w,(binOp .eql 108 (.agg #[(0:Int),(0:Int),(0:Int)]) (.agg #[at_,ar,ai])).run Tryz.prog w= .ok (.bool b4) w) (e5:∀w,(binOp .eql 108 (.agg #[(0:Int),(0:Int),(0:Int)]) (.agg #[et,er,ei])).run Tryz.prog w= .ok (.bool b5) w) (w:World):
    Calls Tryz.prog 149 #[.agg #[(2:Int),nt,nr,ni,pt,pr,pi,name,dir,.slice dA dn dc,at_,ar,ai,et,er,ei,text,.slice eA en ec]] w λe w'=>e= .returned (.bool (b1 && decide (name.toList=[]) && b3 && b4 && b5 && decide (text.toList=[]) && decide (en=0)))∧Below w.heap.size w w':=by
  have i:=hid (λw=>plain_2 nt nr ni pt pr pi name dir dA dn dc at_ ar ai et er ei text eA en ec w);go_enter Tryz.func149,Tryz.ntmps149
  go_upto_region 2 with(first
    |(go_at_call 185;refine(i.out _).mono ?_;rintro e g ⟨rfl,d⟩)
    |(refine bM rfl _ _ _ rfl _ _ _ _ rfl ?_ rfl ?_ ?_ ?_ ?_;(focus(simp;done));kernel_rfl;rfl;rfl)
    |(refine df rfl _ _ rfl _ _ _ _ rfl ?_ az rfl ?_ ?_;(focus(simp;done));kernel_rfl))
  have h:g.heap[w.heap.size]? =some (.cells #[(2:Int),nt,nr,ni,pt,pr,pi,name,dir,.slice dA dn dc,at_,ar,ai,et,er,ei,text,.slice eA en ec] 125 (0,0)):=(d.block _ (by simp)).trans (am _ _);have j:w.heap.size<g.heap.size:=by have:=d.size;simp at this;omega
  generalize hW:g.alloc (.cells #[(2:Int),nt,nr,ni,(0:Int),(0:Int),(0:Int),.string ⟨#[]⟩,false,.slice dA dn dc,(0:Int),(0:Int),(0:Int),(0:Int),(0:Int),(0:Int),.string ⟨#[]⟩,.slice none 0 0] 125)=W;have a:W.heap[w.heap.size]? =some (.cells #[(2:Int),nt,nr,ni,pt,pr,pi,name,dir,.slice dA dn dc,at_,ar,ai,et,er,ei,text,.slice eA en ec] 125 (0,0)):=by subst hW;exact(ax _ _ _ j).trans h
  have b:W.heap[g.heap.size]? =some (.cells #[(2:Int),nt,nr,ni,(0:Int),(0:Int),(0:Int),.string ⟨#[]⟩,false,.slice dA dn dc,(0:Int),(0:Int),(0:Int),(0:Int),(0:Int),(0:Int),.string ⟨#[]⟩,.slice none 0 0] 125 (0,0)):=by subst hW;exact am _ _
  have l:Below w.heap.size w W:=by subst hW;exact(((ag _ _).alloc (aa _) _).trans (d.mono (by simp))).alloc (by omega) _
  clear hW h;have D:=cw4 a;have E:=cw4 b;have F:=cw5 a;have G:=cw5 b;have H:=cw6 a;have I:=cw6 b;have J:=cw7 a;have K:=cw7 b;have L:=cw8 a;have M:=cw8 b;have N:=cw9 a;have O:=cw9 b;have m:=cw10 a;have n:=cw10 b;have o:=cw11 a;have p:=cw11 b;have q:=cw12 a;have r:=cw12 b;have s:=cw13 a;have t:=cw13 b;have u:=cw14 a;have v:=cw14 b;have x:=cw15 a;have y:=cw15 b;have z:=cw16 a;have A:=cw16 b;have B:=cw17 a;have C:=cw17 b;clear a b i;go_wp2
  all_goals
    go_ret;refine⟨dk ?_,l⟩
    first
      |(simp[*];done)
      | (have f:dn=0:=by omega
         have c:((dn:Int) == (en:Int))=decide (en=0):=by rw[bw,ce,ak];omega
         rw[c,aN f];rename_i hz;clear hz f c
         simp[*];done)
      | (have c:((0:Int) == (en:Int))=decide (en=0):=by rw[bw,ce,ak];omega
         rw[c];clear c
         simp[*];done)
      | (have c:((0:Int) == (dn:Int))=decide (dn=0):=by rw[bw,ce,ak];omega
         rw[c];clear c
         simp[*];done)
      | (have f:dn=0:=by omega
         rw[aN f];rename_i hz;clear hz f
         simp[*];done)
      | (have k:¬dn=0:=by omega
         rw[aE k]
         simp;done)
theorem plain_4 (nt nr ni pt pr pi:Int) (name:ByteArray) (dir:Bool) (dA:Option Addr) (dn dc:Nat) (at_ ar ai et er ei:Int) (text:ByteArray) (eA:Option Addr) (en ec:Nat) (w:World):
  Calls Tryz.prog 185 #[.agg #[(4:Int),nt,nr,ni,pt,pr,pi,name,dir,.slice dA dn dc,at_,ar,ai,et,er,ei,text,.slice eA en ec]] w λe w'=>e= .returned (.agg #[(4:Int),nt,nr,ni,(0:Int),(0:Int),(0:Int),.string ⟨#[]⟩,false,.slice none 0 0,(0:Int),(0:Int),(0:Int),(0:Int),(0:Int),(0:Int),.string ⟨#[]⟩,.slice eA en ec])∧Below w.heap.size w w':=by
 go_enter Tryz.func185,Tryz.ntmps185
 go_wp2_with (first
  |(refine bM rfl _ _ _ rfl _ _ _ _ rfl ?_ rfl ?_ ?_ ?_ ?_;(focus(simp;done));kernel_rfl;rfl;rfl)
  |(refine gU rfl _ _ _ rfl _ _ _ _ rfl ?_ rfl ?_ ?_ ?_ ?_;(focus(simp;done));kernel_rfl;rfl;rfl)
  |(refine im rfl _ _ _ rfl _ _ _ _ _ _ rfl ?_ rfl ?_ ?_ ?_ rfl ?_;(focus(simp;done));kernel_rfl;decide;rfl)
  |(refine df rfl _ _ rfl _ _ _ _ rfl ?_ az rfl ?_ ?_;(focus(simp;done));kernel_rfl))
 refine bB (co rfl _ _ (w.heap.size+1) _ _ (0,0) _ rfl ((ax _ _ _ (by simp)).trans (cJ _ _ (by simp))) az rfl (by kernel_rfl)) rfl ⟨rfl,?_⟩;exact(((ag _ _).alloc (aa _) _).alloc (by simp) _).alloc (by simp;omega) _
theorem bare_4 (nt nr ni pt pr pi:Int) (name:ByteArray) (dir:Bool) (dA:Option Addr) (dn dc:Nat) (at_ ar ai et er ei:Int) (text:ByteArray) (eA:Option Addr) (en ec:Nat) (b1 b3 b4 b5:Bool) (e1:∀w,(binOp .eql 108 (.agg #[(0:Int),(0:Int),(0:Int)]) (.agg #[pt,pr,pi])).run Tryz.prog w= .ok (.bool b1) w) (e3:∀w,(binOp .eql 4 (.bool false) (.bool dir)).run Tryz.prog w= .ok (.bool b3) w) (e4:∀w,(binOp .eql 108 (.agg #[(0:Int),(0:Int),(0:Int)]) (.agg #[at_,ar,ai])).run Tryz.prog w= .ok (.bool b4) w) (e5:∀w,(binOp .eql 108 (.agg #[(0:Int),(0:Int),(0:Int)]) (.agg #[et,er,ei])).run Tryz.prog w= .ok (.bool b5) w) (w:World):
    Calls Tryz.prog 149 #[.agg #[(4:Int),nt,nr,ni,pt,pr,pi,name,dir,.slice dA dn dc,at_,ar,ai,et,er,ei,text,.slice eA en ec]] w λe w'=>e= .returned (.bool (b1 && decide (name.toList=[]) && b3 && b4 && b5 && decide (text.toList=[]) && decide (dn=0)))∧Below w.heap.size w w':=by
  have i:=hid (λw=>plain_4 nt nr ni pt pr pi name dir dA dn dc at_ ar ai et er ei text eA en ec w);go_enter Tryz.func149,Tryz.ntmps149
  go_upto_region 2 with(first
    |(go_at_call 185;refine(i.out _).mono ?_;rintro e g ⟨rfl,d⟩)
    |(refine bM rfl _ _ _ rfl _ _ _ _ rfl ?_ rfl ?_ ?_ ?_ ?_;(focus(simp;done));kernel_rfl;rfl;rfl)
    |(refine df rfl _ _ rfl _ _ _ _ rfl ?_ az rfl ?_ ?_;(focus(simp;done));kernel_rfl))
  have h:g.heap[w.heap.size]? =some (.cells #[(4:Int),nt,nr,ni,pt,pr,pi,name,dir,.slice dA dn dc,at_,ar,ai,et,er,ei,text,.slice eA en ec] 125 (0,0)):=(d.block _ (by simp)).trans (am _ _);have j:w.heap.size<g.heap.size:=by have:=d.size;simp at this;omega
  generalize hW:g.alloc (.cells #[(4:Int),nt,nr,ni,(0:Int),(0:Int),(0:Int),.string ⟨#[]⟩,false,.slice none 0 0,(0:Int),(0:Int),(0:Int),(0:Int),(0:Int),(0:Int),.string ⟨#[]⟩,.slice eA en ec] 125)=W;have a:W.heap[w.heap.size]? =some (.cells #[(4:Int),nt,nr,ni,pt,pr,pi,name,dir,.slice dA dn dc,at_,ar,ai,et,er,ei,text,.slice eA en ec] 125 (0,0)):=by subst hW;exact(ax _ _ _ j).trans h
  have b:W.heap[g.heap.size]? =some (.cells #[(4:Int),nt,nr,ni,(0:Int),(0:Int),(0:Int),.string ⟨#[]⟩,false,.slice none 0 0,(0:Int),(0:Int),(0:Int),(0:Int),(0:Int),(0:Int),.string ⟨#[]⟩,.slice eA en ec] 125 (0,0)):=by subst hW;exact am _ _
  have l:Below w.heap.size w W:=by subst hW;exact(((ag _ _).alloc (aa _) _).trans (d.mono (by simp))).alloc (by omega) _
  clear hW h;have D:=cw4 a;have E:=cw4 b;have F:=cw5 a;have G:=cw5 b;have H:=cw6 a;have I:=cw6 b;have J:=cw7 a;have K:=cw7 b;have L:=cw8 a;have M:=cw8 b;have N:=cw9 a;have O:=cw9 b;have m:=cw10 a;have n:=cw10 b;have o:=cw11 a;have p:=cw11 b;have q:=cw12 a;have r:=cw12 b;have s:=cw13 a;have t:=cw13 b;have u:=cw14 a;have v:=cw14 b;have x:=cw15 a;have y:=cw15 b;have z:=cw16 a;have A:=cw16 b;have B:=cw17 a;have C:=cw17 b;clear a b i;go_wp2
  all_goals
    go_ret;refine⟨dk ?_,l⟩
    first
      |(simp[*];done)
      | (have f:dn=0:=by omega
         have c:((dn:Int) == (en:Int))=decide (en=0):=by rw[bw,ce,ak];omega
         rw[c,aN f];rename_i hz;clear hz f c
         simp[*];done)
      | (have c:((0:Int) == (en:Int))=decide (en=0):=by rw[bw,ce,ak];omega
         rw[c];clear c
         simp[*];done)
      | (have c:((0:Int) == (dn:Int))=decide (dn=0):=by rw[bw,ce,ak];omega
         rw[c];clear c
         simp[*];done)
      | (have f:dn=0:=by omega
         rw[aN f];rename_i hz;clear hz f
         simp[*];done)
      | (have k:¬dn=0:=by omega
         rw[aE k]
         simp;done)
end
section
open Go.RowKit Go.Lib Go.Sort
attribute [local go_sem ↓] Go.wp_at_zero Go.wp_at_succ
theorem gL (w:World) (o:Obj) {n:Nat} (h:w.heap.size=n):(w.alloc o).heap[n]? =some o:=by subst h;exact am w o
theorem plain_0 (nt nr ni pt pr pi:Int) (name:ByteArray) (dir:Bool) (dA:Option Addr) (dn dc:Nat) (at_ ar ai et er ei:Int) (text:ByteArray) (eA:Option Addr) (en ec:Nat) (w:World):
  Calls Tryz.prog 185 #[.agg #[(0:Int),nt,nr,ni,pt,pr,pi,name,dir,.slice dA dn dc,at_,ar,ai,et,er,ei,text,.slice eA en ec]] w λe w'=>e= .returned (.agg #[(0:Int),nt,nr,ni,pt,pr,pi,name,dir,.slice none 0 0,(0:Int),(0:Int),(0:Int),(0:Int),(0:Int),(0:Int),.string ⟨#[]⟩,.slice none 0 0])∧Below w.heap.size w w':=by
 go_enter Tryz.func185,Tryz.ntmps185
 go_wp2_with (first
  |(refine bM rfl _ _ _ rfl _ _ _ _ rfl ?_ rfl ?_ ?_ ?_ ?_;(focus(simp;done));kernel_rfl;rfl;rfl)
  |(refine gU rfl _ _ _ rfl _ _ _ _ rfl ?_ rfl ?_ ?_ ?_ ?_;(focus(simp;done));kernel_rfl;rfl;rfl)
  |(refine im rfl _ _ _ rfl _ _ _ _ _ _ rfl ?_ rfl ?_ ?_ ?_ rfl ?_;(focus(simp;done));kernel_rfl;decide;rfl)
  |(refine df rfl _ _ rfl _ _ _ _ rfl ?_ az rfl ?_ ?_;(focus(simp;done));kernel_rfl))
 generalize hW:((w.alloc (.cells #[(0:Int),nt,nr,ni,pt,pr,pi,name,dir,.slice dA dn dc,at_,ar,ai,et,er,ei,text,.slice eA en ec] 125)).alloc (.cells #[(0:Int),(0:Int),(0:Int),(0:Int),(0:Int),(0:Int),(0:Int),.string ⟨#[]⟩,false,.slice none 0 0,(0:Int),(0:Int),(0:Int),(0:Int),(0:Int),(0:Int),.string ⟨#[]⟩,.slice none 0 0] 125)).alloc (.cells #[(0:Int),nt,nr,ni,(0:Int),(0:Int),(0:Int),.string ⟨#[]⟩,dir,.slice none 0 0,(0:Int),(0:Int),(0:Int),(0:Int),(0:Int),(0:Int),.string ⟨#[]⟩,.slice none 0 0] 125)=W;have b:W.heap[w.heap.size]? =some (.cells #[(0:Int),nt,nr,ni,pt,pr,pi,name,dir,.slice dA dn dc,at_,ar,ai,et,er,ei,text,.slice eA en ec] 125 (0,0)):=by subst hW;exact(ax _ _ _ (by simp;omega)).trans ((ax _ _ _ (by simp)).trans (am _ _))
 have c:W.heap[w.heap.size+1]? =some (.cells #[(0:Int),(0:Int),(0:Int),(0:Int),(0:Int),(0:Int),(0:Int),.string ⟨#[]⟩,false,.slice none 0 0,(0:Int),(0:Int),(0:Int),(0:Int),(0:Int),(0:Int),.string ⟨#[]⟩,.slice none 0 0] 125 (0,0)):=by subst hW;exact(ax _ _ _ (by simp)).trans (gL _ _ (by simp))
 have a:W.heap[w.heap.size+1+1]? =some (.cells #[(0:Int),nt,nr,ni,(0:Int),(0:Int),(0:Int),.string ⟨#[]⟩,dir,.slice none 0 0,(0:Int),(0:Int),(0:Int),(0:Int),(0:Int),(0:Int),.string ⟨#[]⟩,.slice none 0 0] 125 (0,0)):=by subst hW;exact gL _ _ (by simp)
 have f:Below w.heap.size w W:=by subst hW;exact(((ag _ _).alloc (aa _) _).alloc (by simp) _).alloc (by simp;omega) _
 clear hW;have h:=cw4 b;have i:=cw4 a;have j:W.frozen? ⟨w.heap.size+1+1,4,none⟩=false:=aW _ _ _ _ _ a;have k:=cw5 b;have l:=cw5 a;have m:W.frozen? ⟨w.heap.size+1+1,5,none⟩=false:=aW _ _ _ _ _ a;have n:=cw6 b;have o:=cw6 a;have p:W.frozen? ⟨w.heap.size+1+1,6,none⟩=false:=aW _ _ _ _ _ a;have q:=cw7 b;have r:=cw7 a;have s:W.frozen? ⟨w.heap.size+1+1,7,none⟩=false:=aW _ _ _ _ _ a;have t:=hid b;have d:=hid c;have g:=hid a;clear b c a;go_region_held3 (λw'=>w'.cell? ⟨w.heap.size,4,none⟩=some (.int .i64 pt)∧w'.cell? ⟨w.heap.size,5,none⟩=some (.int .i64 pr)∧w'.cell? ⟨w.heap.size,6,none⟩=some (.int .i64 pi)∧w'.cell? ⟨w.heap.size,7,none⟩=some (.string name)) ((refine⟨?_,?_,?_,?_⟩<;>((try rw[World.cell?_drew]);(repeat(refine(eY _ _ _ _ ?_).trans ?_;(focus(intro e;injection e with u _;omega))));assumption))) (fail)
 all_goals
  go_wp2_with (first
   |(refine cu rfl _ _ rfl (w.heap.size+1+1) _ _ _ rfl (cn _ _ _ _ _ _ (cn _ _ _ _ _ _ (cn _ _ _ _ _ _ (cn _ _ _ _ _ _ g.out)))) az rfl ?_ ?_;kernel_rfl)
   |(refine da rfl _ _ _ rfl (w.heap.size+1) _ _ _ rfl rfl ((bx _ _ _ _ (by simp)).trans ((bx _ _ _ _ (by simp)).trans ((bx _ _ _ _ (by simp)).trans ((bx _ _ _ _ (by simp)).trans d.out)))) ?_ ?_ ?_ ?_;kernel_rfl;rfl;rfl))
  refine bB (co rfl _ _ (w.heap.size+1) _ _ (0,0) _ rfl (aM _ ((bx _ _ _ _ (by simp)).trans ((bx _ _ _ _ (by simp)).trans ((bx _ _ _ _ (by simp)).trans ((bx _ _ _ _ (by simp)).trans d.out))))) az rfl (by kernel_rfl)) rfl ⟨rfl,?_⟩;refine Below.setRow' ?_ (by omega) _;exact((((f.drew.setCell (by simp;omega) _).setCell (by simp;omega) _).setCell (by simp;omega) _).setCell (by simp;omega) _)
theorem bare_0 (nt nr ni pt pr pi:Int) (name:ByteArray) (dir:Bool) (dA:Option Addr) (dn dc:Nat) (at_ ar ai et er ei:Int) (text:ByteArray) (eA:Option Addr) (en ec:Nat) (b1 b3 b4 b5:Bool) (e4:∀w,(binOp .eql 108 (.agg #[(0:Int),(0:Int),(0:Int)]) (.agg #[at_,ar,ai])).run Tryz.prog w= .ok (.bool b4) w) (e5:∀w,(binOp .eql 108 (.agg #[(0:Int),(0:Int),(0:Int)]) (.agg #[et,er,ei])).run Tryz.prog w= .ok (.bool b5) w) (w:World):
    Calls Tryz.prog 149 #[.agg #[(0:Int),nt,nr,ni,pt,pr,pi,name,dir,.slice dA dn dc,at_,ar,ai,et,er,ei,text,.slice eA en ec]] w λe w'=>e= .returned (.bool (b4 && b5 && decide (text.toList=[]) && decide (dn=0) && decide (en=0)))∧Below w.heap.size w w':=by
  have i:=hid (λw=>plain_0 nt nr ni pt pr pi name dir dA dn dc at_ ar ai et er ei text eA en ec w);have D:=eJ pt pr pi pt pr pi true (Gid.eqb_iff.2 rfl);go_enter Tryz.func149,Tryz.ntmps149
  go_upto_region 2 with(first
    |(go_at_call 185;refine(i.out _).mono ?_;rintro e g ⟨rfl,d⟩)
    |(refine bM rfl _ _ _ rfl _ _ _ _ rfl ?_ rfl ?_ ?_ ?_ ?_;(focus(simp;done));kernel_rfl;rfl;rfl)
    |(refine df rfl _ _ rfl _ _ _ _ rfl ?_ az rfl ?_ ?_;(focus(simp;done));kernel_rfl))
  have h:g.heap[w.heap.size]? =some (.cells #[(0:Int),nt,nr,ni,pt,pr,pi,name,dir,.slice dA dn dc,at_,ar,ai,et,er,ei,text,.slice eA en ec] 125 (0,0)):=(d.block _ (by simp)).trans (am _ _);have j:w.heap.size<g.heap.size:=by have:=d.size;simp at this;omega
  generalize hW:g.alloc (.cells #[(0:Int),nt,nr,ni,pt,pr,pi,name,dir,.slice none 0 0,(0:Int),(0:Int),(0:Int),(0:Int),(0:Int),(0:Int),.string ⟨#[]⟩,.slice none 0 0] 125)=W;have a:W.heap[w.heap.size]? =some (.cells #[(0:Int),nt,nr,ni,pt,pr,pi,name,dir,.slice dA dn dc,at_,ar,ai,et,er,ei,text,.slice eA en ec] 125 (0,0)):=by subst hW;exact(ax _ _ _ j).trans h
  have b:W.heap[g.heap.size]? =some (.cells #[(0:Int),nt,nr,ni,pt,pr,pi,name,dir,.slice none 0 0,(0:Int),(0:Int),(0:Int),(0:Int),(0:Int),(0:Int),.string ⟨#[]⟩,.slice none 0 0] 125 (0,0)):=by subst hW;exact am _ _
  have l:Below w.heap.size w W:=by subst hW;exact(((ag _ _).alloc (aa _) _).trans (d.mono (by simp))).alloc (by omega) _
  clear hW h;have E:=cw4 a;have F:=cw4 b;have G:=cw5 a;have H:=cw5 b;have I:=cw6 a;have J:=cw6 b;have K:=cw7 a;have L:=cw7 b;have M:=cw8 a;have N:=cw8 b;have O:=cw9 a;have P:=cw9 b;have m:=cw10 a;have n:=cw10 b;have o:=cw11 a;have p:=cw11 b;have q:=cw12 a;have r:=cw12 b;have s:=cw13 a;have t:=cw13 b;have u:=cw14 a;have v:=cw14 b;have x:=cw15 a;have y:=cw15 b;have z:=cw16 a;have A:=cw16 b;have B:=cw17 a;have C:=cw17 b;clear a b i;go_wp2
  all_goals
    go_ret;refine⟨dk ?_,l⟩
    first
      |(simp[*];done)
      | (have f:dn=0:=by omega
         have c:((dn:Int) == (en:Int))=decide (en=0):=by rw[bw,ce,ak];omega
         rw[c,aN f];rename_i hz;clear hz f c
         simp[*];done)
      | (have c:((0:Int) == (en:Int))=decide (en=0):=by rw[bw,ce,ak];omega
         rw[c];clear c
         simp[*];done)
      | (have c:((0:Int) == (dn:Int))=decide (dn=0):=by rw[bw,ce,ak];omega
         rw[c];clear c
         simp[*];done)
      | (have f:dn=0:=by omega
         rw[aN f];rename_i hz;clear hz f
         simp[*];done)
      | (have k:¬dn=0:=by omega
         rw[aE k]
         simp;done)
theorem plain_1 (nt nr ni pt pr pi:Int) (name:ByteArray) (dir:Bool) (dA:Option Addr) (dn dc:Nat) (at_ ar ai et er ei:Int) (text:ByteArray) (eA:Option Addr) (en ec:Nat) (w:World):
  Calls Tryz.prog 185 #[.agg #[(1:Int),nt,nr,ni,pt,pr,pi,name,dir,.slice dA dn dc,at_,ar,ai,et,er,ei,text,.slice eA en ec]] w λe w'=>e= .returned (.agg #[(1:Int),nt,nr,ni,pt,pr,pi,name,false,.slice none 0 0,(0:Int),(0:Int),(0:Int),(0:Int),(0:Int),(0:Int),.string ⟨#[]⟩,.slice none 0 0])∧Below w.heap.size w w':=by
 go_enter Tryz.func185,Tryz.ntmps185
 go_wp2_with (first
  |(refine bM rfl _ _ _ rfl _ _ _ _ rfl ?_ rfl ?_ ?_ ?_ ?_;(focus(simp;done));kernel_rfl;rfl;rfl)
  |(refine gU rfl _ _ _ rfl _ _ _ _ rfl ?_ rfl ?_ ?_ ?_ ?_;(focus(simp;done));kernel_rfl;rfl;rfl)
  |(refine im rfl _ _ _ rfl _ _ _ _ _ _ rfl ?_ rfl ?_ ?_ ?_ rfl ?_;(focus(simp;done));kernel_rfl;decide;rfl)
  |(refine df rfl _ _ rfl _ _ _ _ rfl ?_ az rfl ?_ ?_;(focus(simp;done));kernel_rfl))
 generalize hW:((w.alloc (.cells #[(1:Int),nt,nr,ni,pt,pr,pi,name,dir,.slice dA dn dc,at_,ar,ai,et,er,ei,text,.slice eA en ec] 125)).alloc (.cells #[(0:Int),(0:Int),(0:Int),(0:Int),(0:Int),(0:Int),(0:Int),.string ⟨#[]⟩,false,.slice none 0 0,(0:Int),(0:Int),(0:Int),(0:Int),(0:Int),(0:Int),.string ⟨#[]⟩,.slice none 0 0] 125)).alloc (.cells #[(1:Int),nt,nr,ni,(0:Int),(0:Int),(0:Int),.string ⟨#[]⟩,false,.slice none 0 0,(0:Int),(0:Int),(0:Int),(0:Int),(0:Int),(0:Int),.string ⟨#[]⟩,.slice none 0 0] 125)=W;have b:W.heap[w.heap.size]? =some (.cells #[(1:Int),nt,nr,ni,pt,pr,pi,name,dir,.slice dA dn dc,at_,ar,ai,et,er,ei,text,.slice eA en ec] 125 (0,0)):=by subst hW;exact(ax _ _ _ (by simp;omega)).trans ((ax _ _ _ (by simp)).trans (am _ _))
 have c:W.heap[w.heap.size+1]? =some (.cells #[(0:Int),(0:Int),(0:Int),(0:Int),(0:Int),(0:Int),(0:Int),.string ⟨#[]⟩,false,.slice none 0 0,(0:Int),(0:Int),(0:Int),(0:Int),(0:Int),(0:Int),.string ⟨#[]⟩,.slice none 0 0] 125 (0,0)):=by subst hW;exact(ax _ _ _ (by simp)).trans (gL _ _ (by simp))
 have a:W.heap[w.heap.size+1+1]? =some (.cells #[(1:Int),nt,nr,ni,(0:Int),(0:Int),(0:Int),.string ⟨#[]⟩,false,.slice none 0 0,(0:Int),(0:Int),(0:Int),(0:Int),(0:Int),(0:Int),.string ⟨#[]⟩,.slice none 0 0] 125 (0,0)):=by subst hW;exact gL _ _ (by simp)
 have f:Below w.heap.size w W:=by subst hW;exact(((ag _ _).alloc (aa _) _).alloc (by simp) _).alloc (by simp;omega) _
 clear hW;have h:=cw4 b;have i:=cw4 a;have j:W.frozen? ⟨w.heap.size+1+1,4,none⟩=false:=aW _ _ _ _ _ a;have k:=cw5 b;have l:=cw5 a;have m:W.frozen? ⟨w.heap.size+1+1,5,none⟩=false:=aW _ _ _ _ _ a;have n:=cw6 b;have o:=cw6 a;have p:W.frozen? ⟨w.heap.size+1+1,6,none⟩=false:=aW _ _ _ _ _ a;have q:=cw7 b;have r:=cw7 a;have s:W.frozen? ⟨w.heap.size+1+1,7,none⟩=false:=aW _ _ _ _ _ a;have t:=hid b;have d:=hid c;have g:=hid a;clear b c a;go_region_held3 (λw'=>w'.cell? ⟨w.heap.size,4,none⟩=some (.int .i64 pt)∧w'.cell? ⟨w.heap.size,5,none⟩=some (.int .i64 pr)∧w'.cell? ⟨w.heap.size,6,none⟩=some (.int .i64 pi)∧w'.cell? ⟨w.heap.size,7,none⟩=some (.string name)) ((refine⟨?_,?_,?_,?_⟩<;>((try rw[World.cell?_drew]);(repeat(refine(eY _ _ _ _ ?_).trans ?_;(focus(intro e;injection e with u _;omega))));assumption))) (fail)
 all_goals
  go_wp2_with (first
   |(refine cu rfl _ _ rfl (w.heap.size+1+1) _ _ _ rfl (cn _ _ _ _ _ _ (cn _ _ _ _ _ _ (cn _ _ _ _ _ _ (cn _ _ _ _ _ _ g.out)))) az rfl ?_ ?_;kernel_rfl)
   |(refine da rfl _ _ _ rfl (w.heap.size+1) _ _ _ rfl rfl ((bx _ _ _ _ (by simp)).trans ((bx _ _ _ _ (by simp)).trans ((bx _ _ _ _ (by simp)).trans ((bx _ _ _ _ (by simp)).trans d.out)))) ?_ ?_ ?_ ?_;kernel_rfl;rfl;rfl))
  refine bB (co rfl _ _ (w.heap.size+1) _ _ (0,0) _ rfl (aM _ ((bx _ _ _ _ (by simp)).trans ((bx _ _ _ _ (by simp)).trans ((bx _ _ _ _ (by simp)).trans ((bx _ _ _ _ (by simp)).trans d.out))))) az rfl (by kernel_rfl)) rfl ⟨rfl,?_⟩;refine Below.setRow' ?_ (by omega) _;exact((((f.drew.setCell (by simp;omega) _).setCell (by simp;omega) _).setCell (by simp;omega) _).setCell (by simp;omega) _)
theorem bare_1 (nt nr ni pt pr pi:Int) (name:ByteArray) (dir:Bool) (dA:Option Addr) (dn dc:Nat) (at_ ar ai et er ei:Int) (text:ByteArray) (eA:Option Addr) (en ec:Nat) (b1 b3 b4 b5:Bool) (e3:∀w,(binOp .eql 4 (.bool false) (.bool dir)).run Tryz.prog w= .ok (.bool b3) w) (e4:∀w,(binOp .eql 108 (.agg #[(0:Int),(0:Int),(0:Int)]) (.agg #[at_,ar,ai])).run Tryz.prog w= .ok (.bool b4) w) (e5:∀w,(binOp .eql 108 (.agg #[(0:Int),(0:Int),(0:Int)]) (.agg #[et,er,ei])).run Tryz.prog w= .ok (.bool b5) w) (w:World):
    Calls Tryz.prog 149 #[.agg #[(1:Int),nt,nr,ni,pt,pr,pi,name,dir,.slice dA dn dc,at_,ar,ai,et,er,ei,text,.slice eA en ec]] w λe w'=>e= .returned (.bool (b3 && b4 && b5 && decide (text.toList=[]) && decide (dn=0) && decide (en=0)))∧Below w.heap.size w w':=by
  have i:=hid (λw=>plain_1 nt nr ni pt pr pi name dir dA dn dc at_ ar ai et er ei text eA en ec w);have D:=eJ pt pr pi pt pr pi true (Gid.eqb_iff.2 rfl);go_enter Tryz.func149,Tryz.ntmps149
  go_upto_region 2 with(first
    |(go_at_call 185;refine(i.out _).mono ?_;rintro e g ⟨rfl,d⟩)
    |(refine bM rfl _ _ _ rfl _ _ _ _ rfl ?_ rfl ?_ ?_ ?_ ?_;(focus(simp;done));kernel_rfl;rfl;rfl)
    |(refine df rfl _ _ rfl _ _ _ _ rfl ?_ az rfl ?_ ?_;(focus(simp;done));kernel_rfl))
  have h:g.heap[w.heap.size]? =some (.cells #[(1:Int),nt,nr,ni,pt,pr,pi,name,dir,.slice dA dn dc,at_,ar,ai,et,er,ei,text,.slice eA en ec] 125 (0,0)):=(d.block _ (by simp)).trans (am _ _);have j:w.heap.size<g.heap.size:=by have:=d.size;simp at this;omega
  generalize hW:g.alloc (.cells #[(1:Int),nt,nr,ni,pt,pr,pi,name,false,.slice none 0 0,(0:Int),(0:Int),(0:Int),(0:Int),(0:Int),(0:Int),.string ⟨#[]⟩,.slice none 0 0] 125)=W;have a:W.heap[w.heap.size]? =some (.cells #[(1:Int),nt,nr,ni,pt,pr,pi,name,dir,.slice dA dn dc,at_,ar,ai,et,er,ei,text,.slice eA en ec] 125 (0,0)):=by subst hW;exact(ax _ _ _ j).trans h
  have b:W.heap[g.heap.size]? =some (.cells #[(1:Int),nt,nr,ni,pt,pr,pi,name,false,.slice none 0 0,(0:Int),(0:Int),(0:Int),(0:Int),(0:Int),(0:Int),.string ⟨#[]⟩,.slice none 0 0] 125 (0,0)):=by subst hW;exact am _ _
  have l:Below w.heap.size w W:=by subst hW;exact(((ag _ _).alloc (aa _) _).trans (d.mono (by simp))).alloc (by omega) _
  clear hW h;have E:=cw4 a;have F:=cw4 b;have G:=cw5 a;have H:=cw5 b;have I:=cw6 a;have J:=cw6 b;have K:=cw7 a;have L:=cw7 b;have M:=cw8 a;have N:=cw8 b;have O:=cw9 a;have P:=cw9 b;have m:=cw10 a;have n:=cw10 b;have o:=cw11 a;have p:=cw11 b;have q:=cw12 a;have r:=cw12 b;have s:=cw13 a;have t:=cw13 b;have u:=cw14 a;have v:=cw14 b;have x:=cw15 a;have y:=cw15 b;have z:=cw16 a;have A:=cw16 b;have B:=cw17 a;have C:=cw17 b;clear a b i;go_wp2
  all_goals
    go_ret;refine⟨dk ?_,l⟩
    first
      |(simp[*];done)
      | (have f:dn=0:=by omega
         have c:((dn:Int) == (en:Int))=decide (en=0):=by rw[bw,ce,ak];omega
         rw[c,aN f];rename_i hz;clear hz f c
         simp[*];done)
      | (have c:((0:Int) == (en:Int))=decide (en=0):=by rw[bw,ce,ak];omega
         rw[c];clear c
         simp[*];done)
      | (have c:((0:Int) == (dn:Int))=decide (dn=0):=by rw[bw,ce,ak];omega
         rw[c];clear c
         simp[*];done)
      | (have f:dn=0:=by omega
         rw[aN f];rename_i hz;clear hz f
         simp[*];done)
      | (have k:¬dn=0:=by omega
         rw[aE k]
         simp;done)
end
section
open Go.RowKit Go.Lib Go.Sort
attribute [local go_sem ↓] Go.wp_at_zero Go.wp_at_succ
def PlCut (w:World) (c z:Array Value) (T:TypeId) (wx:World):Prop:=wx.heap[w.heap.size+1+1]? =some (.cells c T (0,0))∧wx.heap[w.heap.size+1]? =some (.cells z T (0,0))∧Below w.heap.size w wx
theorem drew_heap (w:World) (k:Nat):w.drew.heap[k]? =w.heap[k]? :=rfl
theorem bn (w:World) (o:Obj) {n:Nat} (h:w.heap.size=n):(w.alloc o).heap[n]? =some o:=by subst h;exact am w o
theorem plain_3 (nt nr ni pt pr pi:Int) (name:ByteArray) (dir:Bool) (dA:Option Addr) (dn dc:Nat) (at_ ar ai et er ei:Int) (text:ByteArray) (eA:Option Addr) (en ec:Nat) (w:World):
  Calls Tryz.prog 185 #[.agg #[(3:Int),nt,nr,ni,pt,pr,pi,name,dir,.slice dA dn dc,at_,ar,ai,et,er,ei,text,.slice eA en ec]] w λe w'=>e= .returned (.agg #[(3:Int),nt,nr,ni,(0:Int),(0:Int),(0:Int),.string ⟨#[]⟩,false,.slice none 0 0,at_,ar,ai,et,er,ei,text,.slice none 0 0])∧Below w.heap.size w w':=by
 go_enter Tryz.func185,Tryz.ntmps185
 go_upto_region 11 with(first
  |(refine bM rfl _ _ _ rfl _ _ _ _ rfl ?_ rfl ?_ ?_ ?_ ?_;(focus(simp;done));kernel_rfl;rfl;rfl)
  |(refine gU rfl _ _ _ rfl _ _ _ _ rfl ?_ rfl ?_ ?_ ?_ ?_;(focus(simp;done));kernel_rfl;rfl;rfl)
  |(refine im rfl _ _ _ rfl _ _ _ _ _ _ rfl ?_ rfl ?_ ?_ ?_ rfl ?_;(focus(simp;done));kernel_rfl;decide;rfl)
  |(refine df rfl _ _ rfl _ _ _ _ rfl ?_ az rfl ?_ ?_;(focus(simp;done));kernel_rfl))
 generalize hW:((w.alloc (.cells #[(3:Int),nt,nr,ni,pt,pr,pi,name,dir,.slice dA dn dc,at_,ar,ai,et,er,ei,text,.slice eA en ec] 125)).alloc (.cells #[(0:Int),(0:Int),(0:Int),(0:Int),(0:Int),(0:Int),(0:Int),.string ⟨#[]⟩,false,.slice none 0 0,(0:Int),(0:Int),(0:Int),(0:Int),(0:Int),(0:Int),.string ⟨#[]⟩,.slice none 0 0] 125)).alloc (.cells #[(3:Int),nt,nr,ni,(0:Int),(0:Int),(0:Int),.string ⟨#[]⟩,false,.slice none 0 0,(0:Int),(0:Int),(0:Int),(0:Int),(0:Int),(0:Int),.string ⟨#[]⟩,.slice none 0 0] 125)=W;have f:W.heap[w.heap.size]? =some (.cells #[(3:Int),nt,nr,ni,pt,pr,pi,name,dir,.slice dA dn dc,at_,ar,ai,et,er,ei,text,.slice eA en ec] 125 (0,0)):=by subst hW;exact(ax _ _ _ (by simp;omega)).trans ((ax _ _ _ (by simp)).trans (am _ _))
 have g:W.heap[w.heap.size+1]? =some (.cells #[(0:Int),(0:Int),(0:Int),(0:Int),(0:Int),(0:Int),(0:Int),.string ⟨#[]⟩,false,.slice none 0 0,(0:Int),(0:Int),(0:Int),(0:Int),(0:Int),(0:Int),.string ⟨#[]⟩,.slice none 0 0] 125 (0,0)):=by subst hW;exact(ax _ _ _ (by simp)).trans (bn _ _ (by simp))
 have a:W.heap[w.heap.size+1+1]? =some (.cells #[(3:Int),nt,nr,ni,(0:Int),(0:Int),(0:Int),.string ⟨#[]⟩,false,.slice none 0 0,(0:Int),(0:Int),(0:Int),(0:Int),(0:Int),(0:Int),.string ⟨#[]⟩,.slice none 0 0] 125 (0,0)):=by subst hW;exact bn _ _ (by simp)
 have k:Below w.heap.size w W:=by subst hW;exact(((ag _ _).alloc (aa _) _).alloc (by simp) _).alloc (by simp;omega) _
 clear hW;have l:∀i,W.cell? ⟨w.heap.size,i,none⟩=#[.int .i64 3,.int .i64 nt,.int .i64 nr,.int .i64 ni,.int .i64 pt,.int .i64 pr,.int .i64 pi,.string name,.bool dir,.slice dA dn dc,.int .i64 at_,.int .i64 ar,.int .i64 ai,.int .i64 et,.int .i64 er,.int .i64 ei,.string text,.slice eA en ec][i]? :=λi=>aD _ _ _ _ _ _ f;have o:=cw10 a;have p:=cw11 a;have q:=cw12 a;have r:=cw13 a;have s:=cw14 a;have t:=cw15 a;have u:=cw16 a;have v:∀i,W.frozen? ⟨w.heap.size+1+1,i,none⟩=false:=λi=>aW _ _ _ _ _ a;have x:=hid f;have m:=hid g;have n:=hid a;clear f g a;go_cut [] (λwx=>PlCut w #[(3:Int),nt,nr,ni,(0:Int),(0:Int),(0:Int),.string ⟨#[]⟩,false,.slice none 0 0,at_,ar,ai,et,er,ei,text,.slice none 0 0] #[(0:Int),(0:Int),(0:Int),(0:Int),(0:Int),(0:Int),(0:Int),.string ⟨#[]⟩,false,.slice none 0 0,(0:Int),(0:Int),(0:Int),(0:Int),(0:Int),(0:Int),.string ⟨#[]⟩,.slice none 0 0] 125 wx)
 case first=>
  go_region_held3 (λw'=>∀i,w'.cell? ⟨w.heap.size,i,none⟩=#[.int .i64 3,.int .i64 nt,.int .i64 nr,.int .i64 ni,.int .i64 pt,.int .i64 pr,.int .i64 pi,.string name,.bool dir,.slice dA dn dc,.int .i64 at_,.int .i64 ar,.int .i64 ai,.int .i64 et,.int .i64 er,.int .i64 ei,.string text,.slice eA en ec][i]?) ((intro i;(try rw[World.cell?_drew]);(repeat(refine(eY _ _ _ _ ?_).trans ?_;(focus(intro e;injection e with y _;omega))));exact l i)) (fail)
  all_goals(go_wp2_with fail;go_meet;refine⟨(drew_heap _ _).trans (Eq.trans (cn _ _ _ _ _ _ (cn _ _ _ _ _ _ (cn _ _ _ _ _ _ (cn _ _ _ _ _ _ (cn _ _ _ _ _ _ (cn _ _ _ _ _ _ (cn _ _ _ _ _ _ (n.out)))))))) (by simp)),(drew_heap _ _).trans ((bx _ _ _ _ (by simp)).trans ((bx _ _ _ _ (by simp)).trans ((bx _ _ _ _ (by simp)).trans ((bx _ _ _ _ (by simp)).trans ((bx _ _ _ _ (by simp)).trans ((bx _ _ _ _ (by simp)).trans ((bx _ _ _ _ (by simp)).trans (m.out)))))))),(((((((k.setCell (by simp;omega) _).setCell (by simp;omega) _).setCell (by simp;omega) _).setCell (by simp;omega) _).setCell (by simp;omega) _).setCell (by simp;omega) _).setCell (by simp;omega) _).drew⟩)
 case rest=>
  obtain⟨b,c,h⟩:=hcut;have j:=hid b;have d:=hid c;clear b c
  go_wp2_with (first
   |(refine lA j az ?_)
   |(refine da rfl _ _ _ rfl (w.heap.size+1) _ _ _ rfl rfl d.out ?_ ?_ ?_ ?_;kernel_rfl;rfl;rfl))
  refine bB (co rfl _ _ (w.heap.size+1) _ _ (0,0) _ rfl (aM _ d.out) az rfl (by kernel_rfl)) rfl ⟨rfl,?_⟩;exact Below.setRow' h (by omega) _
theorem bare_3 (nt nr ni pt pr pi:Int) (name:ByteArray) (dir:Bool) (dA:Option Addr) (dn dc:Nat) (at_ ar ai et er ei:Int) (text:ByteArray) (eA:Option Addr) (en ec:Nat) (b1 b3 b4 b5:Bool) (e1:∀w,(binOp .eql 108 (.agg #[(0:Int),(0:Int),(0:Int)]) (.agg #[pt,pr,pi])).run Tryz.prog w= .ok (.bool b1) w) (e3:∀w,(binOp .eql 4 (.bool false) (.bool dir)).run Tryz.prog w= .ok (.bool b3) w) (w:World):
    Calls Tryz.prog 149 #[.agg #[(3:Int),nt,nr,ni,pt,pr,pi,name,dir,.slice dA dn dc,at_,ar,ai,et,er,ei,text,.slice eA en ec]] w λe w'=>e= .returned (.bool (b1 && decide (name.toList=[]) && b3 && decide (dn=0) && decide (en=0)))∧Below w.heap.size w w':=by
  have i:=hid (λw=>plain_3 nt nr ni pt pr pi name dir dA dn dc at_ ar ai et er ei text eA en ec w);have D:=eJ at_ ar ai at_ ar ai true (Gid.eqb_iff.2 rfl)
  have E:=eJ et er ei et er ei true (Gid.eqb_iff.2 rfl);go_enter Tryz.func149,Tryz.ntmps149
  go_upto_region 2 with(first
    |(go_at_call 185;refine(i.out _).mono ?_;rintro e g ⟨rfl,d⟩)
    |(refine bM rfl _ _ _ rfl _ _ _ _ rfl ?_ rfl ?_ ?_ ?_ ?_;(focus(simp;done));kernel_rfl;rfl;rfl)
    |(refine df rfl _ _ rfl _ _ _ _ rfl ?_ az rfl ?_ ?_;(focus(simp;done));kernel_rfl))
  have h:g.heap[w.heap.size]? =some (.cells #[(3:Int),nt,nr,ni,pt,pr,pi,name,dir,.slice dA dn dc,at_,ar,ai,et,er,ei,text,.slice eA en ec] 125 (0,0)):=(d.block _ (by simp)).trans (am _ _);have j:w.heap.size<g.heap.size:=by have:=d.size;simp at this;omega
  generalize hW:g.alloc (.cells #[(3:Int),nt,nr,ni,(0:Int),(0:Int),(0:Int),.string ⟨#[]⟩,false,.slice none 0 0,at_,ar,ai,et,er,ei,text,.slice none 0 0] 125)=W;have a:W.heap[w.heap.size]? =some (.cells #[(3:Int),nt,nr,ni,pt,pr,pi,name,dir,.slice dA dn dc,at_,ar,ai,et,er,ei,text,.slice eA en ec] 125 (0,0)):=by subst hW;exact(ax _ _ _ j).trans h
  have b:W.heap[g.heap.size]? =some (.cells #[(3:Int),nt,nr,ni,(0:Int),(0:Int),(0:Int),.string ⟨#[]⟩,false,.slice none 0 0,at_,ar,ai,et,er,ei,text,.slice none 0 0] 125 (0,0)):=by subst hW;exact am _ _
  have l:Below w.heap.size w W:=by subst hW;exact(((ag _ _).alloc (aa _) _).trans (d.mono (by simp))).alloc (by omega) _
  clear hW h;have F:=cw4 a;have G:=cw4 b;have H:=cw5 a;have I:=cw5 b;have J:=cw6 a;have K:=cw6 b;have L:=cw7 a;have M:=cw7 b;have N:=cw8 a;have O:=cw8 b;have P:=cw9 a;have Q:=cw9 b;have m:=cw10 a;have n:=cw10 b;have o:=cw11 a;have p:=cw11 b;have q:=cw12 a;have r:=cw12 b;have s:=cw13 a;have t:=cw13 b;have u:=cw14 a;have v:=cw14 b;have x:=cw15 a;have y:=cw15 b;have z:=cw16 a;have A:=cw16 b;have B:=cw17 a;have C:=cw17 b;clear a b i;go_wp2
  all_goals
    go_ret;refine⟨dk ?_,l⟩
    first
      |(simp[*];done)
      | (have f:dn=0:=by omega
         have c:((dn:Int) == (en:Int))=decide (en=0):=by rw[bw,ce,ak];omega
         rw[c,aN f];rename_i hz;clear hz f c
         simp[*];done)
      | (have c:((0:Int) == (en:Int))=decide (en=0):=by rw[bw,ce,ak];omega
         rw[c];clear c
         simp[*];done)
      | (have c:((0:Int) == (dn:Int))=decide (dn=0):=by rw[bw,ce,ak];omega
         rw[c];clear c
         simp[*];done)
      | (have f:dn=0:=by omega
         rw[aN f];rename_i hz;clear hz f
         simp[*];done)
      | (have k:¬dn=0:=by omega
         rw[aE k]
         simp;done)
end
section
open Go.RowKit Go.Lib Go.Sort
theorem Gid.eqb_comm (a b:Gid):a.eqb b=b.eqb a:=by
 rw[bw,Gid.eqb_iff,Gid.eqb_iff];exact eq_comm
theorem fT (x:Gid) (w:World):(binOp .eql 108 (.agg #[(0:Int),(0:Int),(0:Int)]) (.agg #[.int .i64 x.s.t,.int .i64 x.s.r,.int .i64 x.i])).run Tryz.prog w= .ok (.bool x.none) w:=
 eJ 0 0 0 x.s.t x.s.r x.i x.none (Gid.eqb_comm _ _) w
theorem eq_false (d:Bool) (w:World):(binOp .eql 4 (.bool false) (.bool d)).run Tryz.prog w= .ok (.bool (!d)) w:=by
 cases d<;>go_simp
theorem strl (s:ByteArray):s.toList=s.data.toList:=eS s
theorem iH (o:Gop) (x:OpX) (w:World):
  Calls Tryz.prog 149 #[.agg (opA o x)] w λe w'=>e= .returned (.bool (cr o))∧Below w.heap.size w w':=by
 obtain⟨kind,node,parent,name,dir,dots,after,elem,text,elems⟩:=o;by_cases k0:kind=0
 ·subst k0;refine(bare_0 node.s.t node.s.r node.i parent.s.t parent.s.r parent.i name dir x.dA dots.length x.dc after.s.t after.s.r after.i elem.s.t elem.s.r elem.i text x.eA elems.length x.ec true true after.none elem.none (fT after) (fT elem) w).mono ?_;rintro e w' ⟨rfl,hB⟩;refine⟨dk ?_,hB⟩;simp only[cr,strl];generalize after.none=a;generalize elem.none=b;generalize decide (text.data.toList=[])=c;generalize decide (dots.length=0)=d;generalize decide (elems.length=0)=e;cases a<;>cases b<;>cases c<;>cases d<;>cases e<;>simp
 by_cases k1:kind=1
 ·subst k1;refine(bare_1 node.s.t node.s.r node.i parent.s.t parent.s.r parent.i name dir x.dA dots.length x.dc after.s.t after.s.r after.i elem.s.t elem.s.r elem.i text x.eA elems.length x.ec true (!dir) after.none elem.none (eq_false dir) (fT after) (fT elem) w).mono ?_;rintro e w' ⟨rfl,hB⟩;refine⟨dk ?_,hB⟩;simp only[cr,strl];generalize after.none=a;generalize elem.none=b;generalize decide (text.data.toList=[])=c;generalize decide (dots.length=0)=d;generalize decide (elems.length=0)=e;cases a<;>cases b<;>cases c<;>cases d<;>cases e<;>simp
 by_cases k2:kind=2
 ·subst k2;refine(bare_2 node.s.t node.s.r node.i parent.s.t parent.s.r parent.i name dir x.dA dots.length x.dc after.s.t after.s.r after.i elem.s.t elem.s.r elem.i text x.eA elems.length x.ec parent.none (!dir) after.none elem.none (fT parent) (eq_false dir) (fT after) (fT elem) w).mono ?_;rintro e w' ⟨rfl,hB⟩;refine⟨dk ?_,hB⟩;simp only[cr,strl];generalize after.none=a;generalize elem.none=b;generalize decide (text.data.toList=[])=c;generalize parent.none=d;generalize decide (elems.length=0)=e;generalize decide (name.data.toList=[])=f;cases a<;>cases b<;>cases c<;>cases d<;>cases e<;>cases f<;>simp
 by_cases k3:kind=3
 ·subst k3;refine(bare_3 node.s.t node.s.r node.i parent.s.t parent.s.r parent.i name dir x.dA dots.length x.dc after.s.t after.s.r after.i elem.s.t elem.s.r elem.i text x.eA elems.length x.ec parent.none (!dir) true true (fT parent) (eq_false dir) w).mono ?_;rintro e w' ⟨rfl,hB⟩;refine⟨dk ?_,hB⟩;simp only[cr,strl];generalize decide (dots.length=0)=a;generalize parent.none=d;generalize decide (elems.length=0)=e;generalize decide (name.data.toList=[])=f;cases a<;>cases d<;>cases e<;>cases f<;>simp
 by_cases k4:kind=4
 ·subst k4;refine(bare_4 node.s.t node.s.r node.i parent.s.t parent.s.r parent.i name dir x.dA dots.length x.dc after.s.t after.s.r after.i elem.s.t elem.s.r elem.i text x.eA elems.length x.ec parent.none (!dir) after.none elem.none (fT parent) (eq_false dir) (fT after) (fT elem) w).mono ?_;rintro e w' ⟨rfl,hB⟩;refine⟨dk ?_,hB⟩;simp only[cr,strl];generalize after.none=a;generalize elem.none=b;generalize decide (text.data.toList=[])=c;generalize parent.none=d;generalize decide (dots.length=0)=e;generalize decide (name.data.toList=[])=f;cases a<;>cases b<;>cases c<;>cases d<;>cases e<;>cases f<;>simp
 ·refine(bare_x kind k0 k1 k2 k3 k4 node.s.t node.s.r node.i parent.s.t parent.s.r parent.i name dir x.dA dots.length x.dc after.s.t after.s.r after.i elem.s.t elem.s.r elem.i text x.eA elems.length x.ec parent.none (!dir) after.none elem.none (fT parent) (eq_false dir) (fT after) (fT elem) w).mono ?_;rintro e w' ⟨rfl,hB⟩;refine⟨dk ?_,hB⟩;simp only[cr,strl];generalize after.none=a;generalize elem.none=b;generalize decide (text.data.toList=[])=c;generalize parent.none=d;generalize decide (dots.length=0)=e;generalize decide (name.data.toList=[])=f;generalize decide (elems.length=0)=g;cases a<;>cases b<;>cases c<;>cases d<;>cases e<;>cases f<;>cases g<;>simp[k0,k1,k2,k3,k4]
end
end
end Go.Proofs.YtkhmicndehlneaaGreatDoor
