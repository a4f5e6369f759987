/- Part 6 of the walks and plain laws that this claim uses, joined. Conditions: as each theorem states. -/
import Derived.Deep.CutBlock
import Derived.Deep.CutRange
import Derived.Outline
import Derived.Test.YtkhmicndehlneaaGreatDoorYtb
namespace Go.Proofs.YtkhmicndehlneaaGreatDoor
set_option maxRecDepth 100000
set_option maxHeartbeats 16000000
section
section
open Go.RowKit Go.Lib Go.Sort
set_option linter.unusedVariables false
attribute [local go_sem ↓] Go.wp_at_zero Go.wp_at_succ
theorem heap_alloc_new' (w:World) (o:Obj) {n:Nat} (h:w.heap.size=n):(w.alloc o).heap[n]? =some o:=by subst h;exact heap_alloc_new w o
theorem plain_x (k:Int) (h0:¬k=0) (h1:¬k=1) (h2:¬k=2) (h3:¬k=3) (h4:¬k=4) (nt nr ni pt pr pi:Int) (name:ByteArray) (dir:Bool) (dA:Option Addr) (dn dc:Nat) (at_ ar ai et er ei:Int) (text:ByteArray) (eA:Option Addr) (en ec:Nat) (w:World):
  Calls Tryz.prog 185 #[.agg #[.int .i64 k,.int .i64 nt,.int .i64 nr,.int .i64 ni,.int .i64 pt,.int .i64 pr,.int .i64 pi,.string name,.bool dir,.slice dA dn dc,.int .i64 at_,.int .i64 ar,.int .i64 ai,.int .i64 et,.int .i64 er,.int .i64 ei,.string text,.slice eA en ec]] w fun e w'=>e= .returned (.agg #[.int .i64 k,.int .i64 nt,.int .i64 nr,.int .i64 ni,.int .i64 0,.int .i64 0,.int .i64 0,.string ⟨#[]⟩,.bool false,.slice none 0 0,.int .i64 0,.int .i64 0,.int .i64 0,.int .i64 0,.int .i64 0,.int .i64 0,.string ⟨#[]⟩,.slice none 0 0])∧Below w.heap.size w w':=by
 have t0:(k == 0)=false:=by rw[beq_eq_false_iff_ne];exact h0
 have t1:(k == 1)=false:=by rw[beq_eq_false_iff_ne];exact h1
 have t2:(k == 2)=false:=by rw[beq_eq_false_iff_ne];exact h2
 have t3:(k == 3)=false:=by rw[beq_eq_false_iff_ne];exact h3
 have t4:(k == 4)=false:=by rw[beq_eq_false_iff_ne];exact h4
 clear h0 h1 h2 h3 h4
 go_enter Tryz.func185,Tryz.ntmps185
 go_wp2_with (first
  |(refine store_last rfl _ _ _ rfl _ _ _ _ rfl ?_ rfl ?_ ?_ ?_ ?_;(focus(simp;done));kernel_rfl;rfl;rfl)
  |(refine store_last2 rfl _ _ _ rfl _ _ _ _ rfl ?_ rfl ?_ ?_ ?_ ?_;(focus(simp;done));kernel_rfl;rfl;rfl)
  |(refine store_part rfl _ _ _ rfl _ _ _ _ _ _ rfl ?_ rfl ?_ ?_ ?_ rfl ?_;(focus(simp;done));kernel_rfl;decide;rfl)
  |(refine load_last rfl _ _ rfl _ _ _ _ rfl ?_ Tryz.underlying125 rfl ?_ ?_;(focus(simp;done));kernel_rfl))
 refine bodyPost_ret (results_cell_row rfl _ _ (w.heap.size+1) _ _ (0,0) _ rfl ((Below.heap_alloc _ _ _ (by simp)).trans (heap_alloc_new' _ _ (by simp))) Tryz.underlying125 rfl (by kernel_rfl)) rfl ⟨rfl,?_⟩
 exact(((Below.refl _ _).alloc (Nat.le_refl _) _).alloc (by simp) _).alloc (by simp;omega) _
theorem bare_x (k:Int) (h0:¬k=0) (h1:¬k=1) (h2:¬k=2) (h3:¬k=3) (h4:¬k=4) (nt nr ni pt pr pi:Int) (name:ByteArray) (dir:Bool) (dA:Option Addr) (dn dc:Nat) (at_ ar ai et er ei:Int) (text:ByteArray) (eA:Option Addr) (en ec:Nat) (b1 b3 b4 b5:Bool) (e1:∀w,(binOp .eql 108 (.agg #[.int .i64 0,.int .i64 0,.int .i64 0]) (.agg #[.int .i64 pt,.int .i64 pr,.int .i64 pi])).run Tryz.prog w= .ok (.bool b1) w) (e3:∀w,(binOp .eql 4 (.bool false) (.bool dir)).run Tryz.prog w= .ok (.bool b3) w) (e4:∀w,(binOp .eql 108 (.agg #[.int .i64 0,.int .i64 0,.int .i64 0]) (.agg #[.int .i64 at_,.int .i64 ar,.int .i64 ai])).run Tryz.prog w= .ok (.bool b4) w) (e5:∀w,(binOp .eql 108 (.agg #[.int .i64 0,.int .i64 0,.int .i64 0]) (.agg #[.int .i64 et,.int .i64 er,.int .i64 ei])).run Tryz.prog w= .ok (.bool b5) w) (w:World):
    Calls Tryz.prog 149 #[.agg #[.int .i64 k,.int .i64 nt,.int .i64 nr,.int .i64 ni,.int .i64 pt,.int .i64 pr,.int .i64 pi,.string name,.bool dir,.slice dA dn dc,.int .i64 at_,.int .i64 ar,.int .i64 ai,.int .i64 et,.int .i64 er,.int .i64 ei,.string text,.slice eA en ec]] w fun e w'=>e= .returned (.bool (b1 && decide (name.toList=[]) && b3 && b4 && b5 && decide (text.toList=[]) && decide (dn=0) && decide (en=0)))∧Below w.heap.size w w':=by
  have HP:=hid (fun w=>plain_x k h0 h1 h2 h3 h4 nt nr ni pt pr pi name dir dA dn dc at_ ar ai et er ei text eA en ec w)
  clear h0 h1 h2 h3 h4
  go_enter Tryz.func149,Tryz.ntmps149
  go_upto_region 2 with(first
    |(go_at_call 185;refine(HP.out _).mono ?_;rintro e w1 ⟨rfl,hB1⟩)
    |(refine store_last rfl _ _ _ rfl _ _ _ _ rfl ?_ rfl ?_ ?_ ?_ ?_;(focus(simp;done));kernel_rfl;rfl;rfl)
    |(refine load_last rfl _ _ rfl _ _ _ _ rfl ?_ Tryz.underlying125 rfl ?_ ?_;(focus(simp;done));kernel_rfl))
  have hA1:w1.heap[w.heap.size]? =some (.cells #[.int .i64 k,.int .i64 nt,.int .i64 nr,.int .i64 ni,.int .i64 pt,.int .i64 pr,.int .i64 pi,.string name,.bool dir,.slice dA dn dc,.int .i64 at_,.int .i64 ar,.int .i64 ai,.int .i64 et,.int .i64 er,.int .i64 ei,.string text,.slice eA en ec] 125 (0,0)):=(hB1.block _ (by simp)).trans (heap_alloc_new _ _)
  have hs1:w.heap.size<w1.heap.size:=by have:=hB1.size;simp at this;omega
  generalize hW:w1.alloc (.cells #[.int .i64 k,.int .i64 nt,.int .i64 nr,.int .i64 ni,.int .i64 0,.int .i64 0,.int .i64 0,.string ⟨#[]⟩,.bool false,.slice none 0 0,.int .i64 0,.int .i64 0,.int .i64 0,.int .i64 0,.int .i64 0,.int .i64 0,.string ⟨#[]⟩,.slice none 0 0] 125)=W
  have hA:W.heap[w.heap.size]? =some (.cells #[.int .i64 k,.int .i64 nt,.int .i64 nr,.int .i64 ni,.int .i64 pt,.int .i64 pr,.int .i64 pi,.string name,.bool dir,.slice dA dn dc,.int .i64 at_,.int .i64 ar,.int .i64 ai,.int .i64 et,.int .i64 er,.int .i64 ei,.string text,.slice eA en ec] 125 (0,0)):=by subst hW;exact(Below.heap_alloc _ _ _ hs1).trans hA1
  have hC:W.heap[w1.heap.size]? =some (.cells #[.int .i64 k,.int .i64 nt,.int .i64 nr,.int .i64 ni,.int .i64 0,.int .i64 0,.int .i64 0,.string ⟨#[]⟩,.bool false,.slice none 0 0,.int .i64 0,.int .i64 0,.int .i64 0,.int .i64 0,.int .i64 0,.int .i64 0,.string ⟨#[]⟩,.slice none 0 0] 125 (0,0)):=by subst hW;exact heap_alloc_new _ _
  have hB:Below w.heap.size w W:=by subst hW;exact(((Below.refl _ _).alloc (Nat.le_refl _) _).trans (hB1.mono (by simp))).alloc (by omega) _
  clear hW hA1
  have r4:=cw4 hA
  have s4:=cw4 hC
  have r5:=cw5 hA
  have s5:=cw5 hC
  have r6:=cw6 hA
  have s6:=cw6 hC
  have r7:=cw7 hA
  have s7:=cw7 hC
  have r8:=cw8 hA
  have s8:=cw8 hC
  have r9:=cw9 hA
  have s9:=cw9 hC
  have r10:=cw10 hA
  have s10:=cw10 hC
  have r11:=cw11 hA
  have s11:=cw11 hC
  have r12:=cw12 hA
  have s12:=cw12 hC
  have r13:=cw13 hA
  have s13:=cw13 hC
  have r14:=cw14 hA
  have s14:=cw14 hC
  have r15:=cw15 hA
  have s15:=cw15 hC
  have r16:=cw16 hA
  have s16:=cw16 hC
  have r17:=cw17 hA
  have s17:=cw17 hC
  clear hA hC HP
  go_wp2
  all_goals
    go_ret
    refine⟨ret_bool ?_,hB⟩
    first
      |(simp[*];done)
      | (have hd:dn=0:=by omega
         have hde:((dn:Int) == (en:Int))=decide (en=0):=by rw[Bool.eq_iff_iff,beq_iff_eq,decide_eq_true_eq];omega
         rw[hde,decide_eq_true hd]
         rename_i hz
         clear hz hd hde
         simp[*];done)
      | (have hde:((0:Int) == (en:Int))=decide (en=0):=by rw[Bool.eq_iff_iff,beq_iff_eq,decide_eq_true_eq];omega
         rw[hde]
         clear hde
         simp[*];done)
      | (have hde:((0:Int) == (dn:Int))=decide (dn=0):=by rw[Bool.eq_iff_iff,beq_iff_eq,decide_eq_true_eq];omega
         rw[hde]
         clear hde
         simp[*];done)
      | (have hd:dn=0:=by omega
         rw[decide_eq_true hd]
         rename_i hz
         clear hz hd
         simp[*];done)
      | (have hnd:¬dn=0:=by omega
         rw[decide_eq_false hnd]
         simp;done)
theorem plain_2 (nt nr ni pt pr pi:Int) (name:ByteArray) (dir:Bool) (dA:Option Addr) (dn dc:Nat) (at_ ar ai et er ei:Int) (text:ByteArray) (eA:Option Addr) (en ec:Nat) (w:World):
  Calls Tryz.prog 185 #[.agg #[.int .i64 2,.int .i64 nt,.int .i64 nr,.int .i64 ni,.int .i64 pt,.int .i64 pr,.int .i64 pi,.string name,.bool dir,.slice dA dn dc,.int .i64 at_,.int .i64 ar,.int .i64 ai,.int .i64 et,.int .i64 er,.int .i64 ei,.string text,.slice eA en ec]] w fun e w'=>e= .returned (.agg #[.int .i64 2,.int .i64 nt,.int .i64 nr,.int .i64 ni,.int .i64 0,.int .i64 0,.int .i64 0,.string ⟨#[]⟩,.bool false,.slice dA dn dc,.int .i64 0,.int .i64 0,.int .i64 0,.int .i64 0,.int .i64 0,.int .i64 0,.string ⟨#[]⟩,.slice none 0 0])∧Below w.heap.size w w':=by
 go_enter Tryz.func185,Tryz.ntmps185
 go_wp2_with (first
  |(refine store_last rfl _ _ _ rfl _ _ _ _ rfl ?_ rfl ?_ ?_ ?_ ?_;(focus(simp;done));kernel_rfl;rfl;rfl)
  |(refine store_last2 rfl _ _ _ rfl _ _ _ _ rfl ?_ rfl ?_ ?_ ?_ ?_;(focus(simp;done));kernel_rfl;rfl;rfl)
  |(refine store_part rfl _ _ _ rfl _ _ _ _ _ _ rfl ?_ rfl ?_ ?_ ?_ rfl ?_;(focus(simp;done));kernel_rfl;decide;rfl)
  |(refine load_last rfl _ _ rfl _ _ _ _ rfl ?_ Tryz.underlying125 rfl ?_ ?_;(focus(simp;done));kernel_rfl))
 refine bodyPost_ret (results_cell_row rfl _ _ (w.heap.size+1) _ _ (0,0) _ rfl ((Below.heap_alloc _ _ _ (by simp)).trans (heap_alloc_new' _ _ (by simp))) Tryz.underlying125 rfl (by kernel_rfl)) rfl ⟨rfl,?_⟩
 exact(((Below.refl _ _).alloc (Nat.le_refl _) _).alloc (by simp) _).alloc (by simp;omega) _
theorem bare_2 (nt nr ni pt pr pi:Int) (name:ByteArray) (dir:Bool) (dA:Option Addr) (dn dc:Nat) (at_ ar ai et er ei:Int) (text:ByteArray) (eA:Option Addr) (en ec:Nat) (b1 b3 b4 b5:Bool) (e1:∀w,(binOp .eql 108 (.agg #[.int .i64 0,.int .i64 0,.int .i64 0]) (.agg #[.int .i64 pt,.int .i64 pr,.int .i64 pi])).run Tryz.prog w= .ok (.bool b1) w) (e3:∀w,(binOp .eql 4 (.bool false) (.bool dir)).run Tryz.prog w= .ok (.bool b3) w) (e4:∀w,(binOp .eql 108 (.agg #[.int .i64 0,.int .i64 0,.int .i64 0]) (.agg #[.int .i64 at_,.int .i64 ar,.int .i64 ai])).run Tryz.prog w= .ok (.bool b4) w) (e5:∀w,(binOp .eql 108 (.agg #[.int .i64 0,.int .i64 0,.int .i64 0]) (.agg #[.int .i64 et,.int .i64 er,.int .i64 ei])).run Tryz.prog w= .ok (.bool b5) w) (w:World):
    Calls Tryz.prog 149 #[.agg #[.int .i64 2,.int .i64 nt,.int .i64 nr,.int .i64 ni,.int .i64 pt,.int .i64 pr,.int .i64 pi,.string name,.bool dir,.slice dA dn dc,.int .i64 at_,.int .i64 ar,.int .i64 ai,.int .i64 et,.int .i64 er,.int .i64 ei,.string text,.slice eA en ec]] w fun e w'=>e= .returned (.bool (b1 && decide (name.toList=[]) && b3 && b4 && b5 && decide (text.toList=[]) && decide (en=0)))∧Below w.heap.size w w':=by
  have HP:=hid (fun w=>plain_2 nt nr ni pt pr pi name dir dA dn dc at_ ar ai et er ei text eA en ec w)
  go_enter Tryz.func149,Tryz.ntmps149
  go_upto_region 2 with(first
    |(go_at_call 185;refine(HP.out _).mono ?_;rintro e w1 ⟨rfl,hB1⟩)
    |(refine store_last rfl _ _ _ rfl _ _ _ _ rfl ?_ rfl ?_ ?_ ?_ ?_;(focus(simp;done));kernel_rfl;rfl;rfl)
    |(refine load_last rfl _ _ rfl _ _ _ _ rfl ?_ Tryz.underlying125 rfl ?_ ?_;(focus(simp;done));kernel_rfl))
  have hA1:w1.heap[w.heap.size]? =some (.cells #[.int .i64 2,.int .i64 nt,.int .i64 nr,.int .i64 ni,.int .i64 pt,.int .i64 pr,.int .i64 pi,.string name,.bool dir,.slice dA dn dc,.int .i64 at_,.int .i64 ar,.int .i64 ai,.int .i64 et,.int .i64 er,.int .i64 ei,.string text,.slice eA en ec] 125 (0,0)):=(hB1.block _ (by simp)).trans (heap_alloc_new _ _)
  have hs1:w.heap.size<w1.heap.size:=by have:=hB1.size;simp at this;omega
  generalize hW:w1.alloc (.cells #[.int .i64 2,.int .i64 nt,.int .i64 nr,.int .i64 ni,.int .i64 0,.int .i64 0,.int .i64 0,.string ⟨#[]⟩,.bool false,.slice dA dn dc,.int .i64 0,.int .i64 0,.int .i64 0,.int .i64 0,.int .i64 0,.int .i64 0,.string ⟨#[]⟩,.slice none 0 0] 125)=W
  have hA:W.heap[w.heap.size]? =some (.cells #[.int .i64 2,.int .i64 nt,.int .i64 nr,.int .i64 ni,.int .i64 pt,.int .i64 pr,.int .i64 pi,.string name,.bool dir,.slice dA dn dc,.int .i64 at_,.int .i64 ar,.int .i64 ai,.int .i64 et,.int .i64 er,.int .i64 ei,.string text,.slice eA en ec] 125 (0,0)):=by subst hW;exact(Below.heap_alloc _ _ _ hs1).trans hA1
  have hC:W.heap[w1.heap.size]? =some (.cells #[.int .i64 2,.int .i64 nt,.int .i64 nr,.int .i64 ni,.int .i64 0,.int .i64 0,.int .i64 0,.string ⟨#[]⟩,.bool false,.slice dA dn dc,.int .i64 0,.int .i64 0,.int .i64 0,.int .i64 0,.int .i64 0,.int .i64 0,.string ⟨#[]⟩,.slice none 0 0] 125 (0,0)):=by subst hW;exact heap_alloc_new _ _
  have hB:Below w.heap.size w W:=by subst hW;exact(((Below.refl _ _).alloc (Nat.le_refl _) _).trans (hB1.mono (by simp))).alloc (by omega) _
  clear hW hA1
  have r4:=cw4 hA
  have s4:=cw4 hC
  have r5:=cw5 hA
  have s5:=cw5 hC
  have r6:=cw6 hA
  have s6:=cw6 hC
  have r7:=cw7 hA
  have s7:=cw7 hC
  have r8:=cw8 hA
  have s8:=cw8 hC
  have r9:=cw9 hA
  have s9:=cw9 hC
  have r10:=cw10 hA
  have s10:=cw10 hC
  have r11:=cw11 hA
  have s11:=cw11 hC
  have r12:=cw12 hA
  have s12:=cw12 hC
  have r13:=cw13 hA
  have s13:=cw13 hC
  have r14:=cw14 hA
  have s14:=cw14 hC
  have r15:=cw15 hA
  have s15:=cw15 hC
  have r16:=cw16 hA
  have s16:=cw16 hC
  have r17:=cw17 hA
  have s17:=cw17 hC
  clear hA hC HP
  go_wp2
  all_goals
    go_ret
    refine⟨ret_bool ?_,hB⟩
    first
      |(simp[*];done)
      | (have hd:dn=0:=by omega
         have hde:((dn:Int) == (en:Int))=decide (en=0):=by rw[Bool.eq_iff_iff,beq_iff_eq,decide_eq_true_eq];omega
         rw[hde,decide_eq_true hd]
         rename_i hz
         clear hz hd hde
         simp[*];done)
      | (have hde:((0:Int) == (en:Int))=decide (en=0):=by rw[Bool.eq_iff_iff,beq_iff_eq,decide_eq_true_eq];omega
         rw[hde]
         clear hde
         simp[*];done)
      | (have hde:((0:Int) == (dn:Int))=decide (dn=0):=by rw[Bool.eq_iff_iff,beq_iff_eq,decide_eq_true_eq];omega
         rw[hde]
         clear hde
         simp[*];done)
      | (have hd:dn=0:=by omega
         rw[decide_eq_true hd]
         rename_i hz
         clear hz hd
         simp[*];done)
      | (have hnd:¬dn=0:=by omega
         rw[decide_eq_false hnd]
         simp;done)
theorem plain_4 (nt nr ni pt pr pi:Int) (name:ByteArray) (dir:Bool) (dA:Option Addr) (dn dc:Nat) (at_ ar ai et er ei:Int) (text:ByteArray) (eA:Option Addr) (en ec:Nat) (w:World):
  Calls Tryz.prog 185 #[.agg #[.int .i64 4,.int .i64 nt,.int .i64 nr,.int .i64 ni,.int .i64 pt,.int .i64 pr,.int .i64 pi,.string name,.bool dir,.slice dA dn dc,.int .i64 at_,.int .i64 ar,.int .i64 ai,.int .i64 et,.int .i64 er,.int .i64 ei,.string text,.slice eA en ec]] w fun e w'=>e= .returned (.agg #[.int .i64 4,.int .i64 nt,.int .i64 nr,.int .i64 ni,.int .i64 0,.int .i64 0,.int .i64 0,.string ⟨#[]⟩,.bool false,.slice none 0 0,.int .i64 0,.int .i64 0,.int .i64 0,.int .i64 0,.int .i64 0,.int .i64 0,.string ⟨#[]⟩,.slice eA en ec])∧Below w.heap.size w w':=by
 go_enter Tryz.func185,Tryz.ntmps185
 go_wp2_with (first
  |(refine store_last rfl _ _ _ rfl _ _ _ _ rfl ?_ rfl ?_ ?_ ?_ ?_;(focus(simp;done));kernel_rfl;rfl;rfl)
  |(refine store_last2 rfl _ _ _ rfl _ _ _ _ rfl ?_ rfl ?_ ?_ ?_ ?_;(focus(simp;done));kernel_rfl;rfl;rfl)
  |(refine store_part rfl _ _ _ rfl _ _ _ _ _ _ rfl ?_ rfl ?_ ?_ ?_ rfl ?_;(focus(simp;done));kernel_rfl;decide;rfl)
  |(refine load_last rfl _ _ rfl _ _ _ _ rfl ?_ Tryz.underlying125 rfl ?_ ?_;(focus(simp;done));kernel_rfl))
 refine bodyPost_ret (results_cell_row rfl _ _ (w.heap.size+1) _ _ (0,0) _ rfl ((Below.heap_alloc _ _ _ (by simp)).trans (heap_alloc_new' _ _ (by simp))) Tryz.underlying125 rfl (by kernel_rfl)) rfl ⟨rfl,?_⟩
 exact(((Below.refl _ _).alloc (Nat.le_refl _) _).alloc (by simp) _).alloc (by simp;omega) _
theorem bare_4 (nt nr ni pt pr pi:Int) (name:ByteArray) (dir:Bool) (dA:Option Addr) (dn dc:Nat) (at_ ar ai et er ei:Int) (text:ByteArray) (eA:Option Addr) (en ec:Nat) (b1 b3 b4 b5:Bool) (e1:∀w,(binOp .eql 108 (.agg #[.int .i64 0,.int .i64 0,.int .i64 0]) (.agg #[.int .i64 pt,.int .i64 pr,.int .i64 pi])).run Tryz.prog w= .ok (.bool b1) w) (e3:∀w,(binOp .eql 4 (.bool false) (.bool dir)).run Tryz.prog w= .ok (.bool b3) w) (e4:∀w,(binOp .eql 108 (.agg #[.int .i64 0,.int .i64 0,.int .i64 0]) (.agg #[.int .i64 at_,.int .i64 ar,.int .i64 ai])).run Tryz.prog w= .ok (.bool b4) w) (e5:∀w,(binOp .eql 108 (.agg #[.int .i64 0,.int .i64 0,.int .i64 0]) (.agg #[.int .i64 et,.int .i64 er,.int .i64 ei])).run Tryz.prog w= .ok (.bool b5) w) (w:World):
    Calls Tryz.prog 149 #[.agg #[.int .i64 4,.int .i64 nt,.int .i64 nr,.int .i64 ni,.int .i64 pt,.int .i64 pr,.int .i64 pi,.string name,.bool dir,.slice dA dn dc,.int .i64 at_,.int .i64 ar,.int .i64 ai,.int .i64 et,.int .i64 er,.int .i64 ei,.string text,.slice eA en ec]] w fun e w'=>e= .returned (.bool (b1 && decide (name.toList=[]) && b3 && b4 && b5 && decide (text.toList=[]) && decide (dn=0)))∧Below w.heap.size w w':=by
  have HP:=hid (fun w=>plain_4 nt nr ni pt pr pi name dir dA dn dc at_ ar ai et er ei text eA en ec w)
  go_enter Tryz.func149,Tryz.ntmps149
  go_upto_region 2 with(first
    |(go_at_call 185;refine(HP.out _).mono ?_;rintro e w1 ⟨rfl,hB1⟩)
    |(refine store_last rfl _ _ _ rfl _ _ _ _ rfl ?_ rfl ?_ ?_ ?_ ?_;(focus(simp;done));kernel_rfl;rfl;rfl)
    |(refine load_last rfl _ _ rfl _ _ _ _ rfl ?_ Tryz.underlying125 rfl ?_ ?_;(focus(simp;done));kernel_rfl))
  have hA1:w1.heap[w.heap.size]? =some (.cells #[.int .i64 4,.int .i64 nt,.int .i64 nr,.int .i64 ni,.int .i64 pt,.int .i64 pr,.int .i64 pi,.string name,.bool dir,.slice dA dn dc,.int .i64 at_,.int .i64 ar,.int .i64 ai,.int .i64 et,.int .i64 er,.int .i64 ei,.string text,.slice eA en ec] 125 (0,0)):=(hB1.block _ (by simp)).trans (heap_alloc_new _ _)
  have hs1:w.heap.size<w1.heap.size:=by have:=hB1.size;simp at this;omega
  generalize hW:w1.alloc (.cells #[.int .i64 4,.int .i64 nt,.int .i64 nr,.int .i64 ni,.int .i64 0,.int .i64 0,.int .i64 0,.string ⟨#[]⟩,.bool false,.slice none 0 0,.int .i64 0,.int .i64 0,.int .i64 0,.int .i64 0,.int .i64 0,.int .i64 0,.string ⟨#[]⟩,.slice eA en ec] 125)=W
  have hA:W.heap[w.heap.size]? =some (.cells #[.int .i64 4,.int .i64 nt,.int .i64 nr,.int .i64 ni,.int .i64 pt,.int .i64 pr,.int .i64 pi,.string name,.bool dir,.slice dA dn dc,.int .i64 at_,.int .i64 ar,.int .i64 ai,.int .i64 et,.int .i64 er,.int .i64 ei,.string text,.slice eA en ec] 125 (0,0)):=by subst hW;exact(Below.heap_alloc _ _ _ hs1).trans hA1
  have hC:W.heap[w1.heap.size]? =some (.cells #[.int .i64 4,.int .i64 nt,.int .i64 nr,.int .i64 ni,.int .i64 0,.int .i64 0,.int .i64 0,.string ⟨#[]⟩,.bool false,.slice none 0 0,.int .i64 0,.int .i64 0,.int .i64 0,.int .i64 0,.int .i64 0,.int .i64 0,.string ⟨#[]⟩,.slice eA en ec] 125 (0,0)):=by subst hW;exact heap_alloc_new _ _
  have hB:Below w.heap.size w W:=by subst hW;exact(((Below.refl _ _).alloc (Nat.le_refl _) _).trans (hB1.mono (by simp))).alloc (by omega) _
  clear hW hA1
  have r4:=cw4 hA
  have s4:=cw4 hC
  have r5:=cw5 hA
  have s5:=cw5 hC
  have r6:=cw6 hA
  have s6:=cw6 hC
  have r7:=cw7 hA
  have s7:=cw7 hC
  have r8:=cw8 hA
  have s8:=cw8 hC
  have r9:=cw9 hA
  have s9:=cw9 hC
  have r10:=cw10 hA
  have s10:=cw10 hC
  have r11:=cw11 hA
  have s11:=cw11 hC
  have r12:=cw12 hA
  have s12:=cw12 hC
  have r13:=cw13 hA
  have s13:=cw13 hC
  have r14:=cw14 hA
  have s14:=cw14 hC
  have r15:=cw15 hA
  have s15:=cw15 hC
  have r16:=cw16 hA
  have s16:=cw16 hC
  have r17:=cw17 hA
  have s17:=cw17 hC
  clear hA hC HP
  go_wp2
  all_goals
    go_ret
    refine⟨ret_bool ?_,hB⟩
    first
      |(simp[*];done)
      | (have hd:dn=0:=by omega
         have hde:((dn:Int) == (en:Int))=decide (en=0):=by rw[Bool.eq_iff_iff,beq_iff_eq,decide_eq_true_eq];omega
         rw[hde,decide_eq_true hd]
         rename_i hz
         clear hz hd hde
         simp[*];done)
      | (have hde:((0:Int) == (en:Int))=decide (en=0):=by rw[Bool.eq_iff_iff,beq_iff_eq,decide_eq_true_eq];omega
         rw[hde]
         clear hde
         simp[*];done)
      | (have hde:((0:Int) == (dn:Int))=decide (dn=0):=by rw[Bool.eq_iff_iff,beq_iff_eq,decide_eq_true_eq];omega
         rw[hde]
         clear hde
         simp[*];done)
      | (have hd:dn=0:=by omega
         rw[decide_eq_true hd]
         rename_i hz
         clear hz hd
         simp[*];done)
      | (have hnd:¬dn=0:=by omega
         rw[decide_eq_false hnd]
         simp;done)
end
section
open Go.RowKit Go.Lib Go.Sort
set_option linter.unusedVariables false
attribute [local go_sem ↓] Go.wp_at_zero Go.wp_at_succ
theorem heap_alloc_newB (w:World) (o:Obj) {n:Nat} (h:w.heap.size=n):(w.alloc o).heap[n]? =some o:=by subst h;exact heap_alloc_new w o
theorem plain_0 (nt nr ni pt pr pi:Int) (name:ByteArray) (dir:Bool) (dA:Option Addr) (dn dc:Nat) (at_ ar ai et er ei:Int) (text:ByteArray) (eA:Option Addr) (en ec:Nat) (w:World):
  Calls Tryz.prog 185 #[.agg #[.int .i64 0,.int .i64 nt,.int .i64 nr,.int .i64 ni,.int .i64 pt,.int .i64 pr,.int .i64 pi,.string name,.bool dir,.slice dA dn dc,.int .i64 at_,.int .i64 ar,.int .i64 ai,.int .i64 et,.int .i64 er,.int .i64 ei,.string text,.slice eA en ec]] w fun e w'=>e= .returned (.agg #[.int .i64 0,.int .i64 nt,.int .i64 nr,.int .i64 ni,.int .i64 pt,.int .i64 pr,.int .i64 pi,.string name,.bool dir,.slice none 0 0,.int .i64 0,.int .i64 0,.int .i64 0,.int .i64 0,.int .i64 0,.int .i64 0,.string ⟨#[]⟩,.slice none 0 0])∧Below w.heap.size w w':=by
 go_enter Tryz.func185,Tryz.ntmps185
 go_wp2_with (first
  |(refine store_last rfl _ _ _ rfl _ _ _ _ rfl ?_ rfl ?_ ?_ ?_ ?_;(focus(simp;done));kernel_rfl;rfl;rfl)
  |(refine store_last2 rfl _ _ _ rfl _ _ _ _ rfl ?_ rfl ?_ ?_ ?_ ?_;(focus(simp;done));kernel_rfl;rfl;rfl)
  |(refine store_part rfl _ _ _ rfl _ _ _ _ _ _ rfl ?_ rfl ?_ ?_ ?_ rfl ?_;(focus(simp;done));kernel_rfl;decide;rfl)
  |(refine load_last rfl _ _ rfl _ _ _ _ rfl ?_ Tryz.underlying125 rfl ?_ ?_;(focus(simp;done));kernel_rfl))
 generalize hW:((w.alloc (.cells #[.int .i64 0,.int .i64 nt,.int .i64 nr,.int .i64 ni,.int .i64 pt,.int .i64 pr,.int .i64 pi,.string name,.bool dir,.slice dA dn dc,.int .i64 at_,.int .i64 ar,.int .i64 ai,.int .i64 et,.int .i64 er,.int .i64 ei,.string text,.slice eA en ec] 125)).alloc (.cells #[.int .i64 0,.int .i64 0,.int .i64 0,.int .i64 0,.int .i64 0,.int .i64 0,.int .i64 0,.string ⟨#[]⟩,.bool false,.slice none 0 0,.int .i64 0,.int .i64 0,.int .i64 0,.int .i64 0,.int .i64 0,.int .i64 0,.string ⟨#[]⟩,.slice none 0 0] 125)).alloc (.cells #[.int .i64 0,.int .i64 nt,.int .i64 nr,.int .i64 ni,.int .i64 0,.int .i64 0,.int .i64 0,.string ⟨#[]⟩,.bool dir,.slice none 0 0,.int .i64 0,.int .i64 0,.int .i64 0,.int .i64 0,.int .i64 0,.int .i64 0,.string ⟨#[]⟩,.slice none 0 0] 125)=W
 have hA:W.heap[w.heap.size]? =some (.cells #[.int .i64 0,.int .i64 nt,.int .i64 nr,.int .i64 ni,.int .i64 pt,.int .i64 pr,.int .i64 pi,.string name,.bool dir,.slice dA dn dc,.int .i64 at_,.int .i64 ar,.int .i64 ai,.int .i64 et,.int .i64 er,.int .i64 ei,.string text,.slice eA en ec] 125 (0,0)):=by subst hW;exact(Below.heap_alloc _ _ _ (by simp;omega)).trans ((Below.heap_alloc _ _ _ (by simp)).trans (heap_alloc_new _ _))
 have hZ:W.heap[w.heap.size+1]? =some (.cells #[.int .i64 0,.int .i64 0,.int .i64 0,.int .i64 0,.int .i64 0,.int .i64 0,.int .i64 0,.string ⟨#[]⟩,.bool false,.slice none 0 0,.int .i64 0,.int .i64 0,.int .i64 0,.int .i64 0,.int .i64 0,.int .i64 0,.string ⟨#[]⟩,.slice none 0 0] 125 (0,0)):=by subst hW;exact(Below.heap_alloc _ _ _ (by simp)).trans (heap_alloc_newB _ _ (by simp))
 have hC:W.heap[w.heap.size+1+1]? =some (.cells #[.int .i64 0,.int .i64 nt,.int .i64 nr,.int .i64 ni,.int .i64 0,.int .i64 0,.int .i64 0,.string ⟨#[]⟩,.bool dir,.slice none 0 0,.int .i64 0,.int .i64 0,.int .i64 0,.int .i64 0,.int .i64 0,.int .i64 0,.string ⟨#[]⟩,.slice none 0 0] 125 (0,0)):=by subst hW;exact heap_alloc_newB _ _ (by simp)
 have hB:Below w.heap.size w W:=by subst hW;exact(((Below.refl _ _).alloc (Nat.le_refl _) _).alloc (by simp) _).alloc (by simp;omega) _
 clear hW
 have r4:=cw4 hA
 have s4:=cw4 hC
 have f4:W.frozen? ⟨w.heap.size+1+1,4,none⟩=false:=frozen_of_row _ _ _ _ _ hC
 have r5:=cw5 hA
 have s5:=cw5 hC
 have f5:W.frozen? ⟨w.heap.size+1+1,5,none⟩=false:=frozen_of_row _ _ _ _ _ hC
 have r6:=cw6 hA
 have s6:=cw6 hC
 have f6:W.frozen? ⟨w.heap.size+1+1,6,none⟩=false:=frozen_of_row _ _ _ _ _ hC
 have r7:=cw7 hA
 have s7:=cw7 hC
 have f7:W.frozen? ⟨w.heap.size+1+1,7,none⟩=false:=frozen_of_row _ _ _ _ _ hC
 have HA:=hid hA
 have HZ:=hid hZ
 have HC:=hid hC
 clear hA hZ hC
 go_region_held3 (fun w'=>w'.cell? ⟨w.heap.size,4,none⟩=some (.int .i64 pt)∧w'.cell? ⟨w.heap.size,5,none⟩=some (.int .i64 pr)∧w'.cell? ⟨w.heap.size,6,none⟩=some (.int .i64 pi)∧w'.cell? ⟨w.heap.size,7,none⟩=some (.string name)) ((refine⟨?_,?_,?_,?_⟩<;>((try rw[World.cell?_drew]);(repeat(refine(World.cell?_setCell_other _ _ _ _ ?_).trans ?_;(focus(intro e;injection e with e1 _;omega))));assumption))) (fail)
 all_goals
  go_wp2_with (first
   |(refine load_at rfl _ _ rfl (w.heap.size+1+1) _ _ _ rfl (heap_setCell_same _ _ _ _ _ _ (heap_setCell_same _ _ _ _ _ _ (heap_setCell_same _ _ _ _ _ _ (heap_setCell_same _ _ _ _ _ _ HC.out)))) Tryz.underlying125 rfl ?_ ?_;kernel_rfl)
   |(refine store_at rfl _ _ _ rfl (w.heap.size+1) _ _ _ rfl rfl ((heap_setCell_other _ _ _ _ (by simp)).trans ((heap_setCell_other _ _ _ _ (by simp)).trans ((heap_setCell_other _ _ _ _ (by simp)).trans ((heap_setCell_other _ _ _ _ (by simp)).trans HZ.out)))) ?_ ?_ ?_ ?_;kernel_rfl;rfl;rfl))
  refine bodyPost_ret (results_cell_row rfl _ _ (w.heap.size+1) _ _ (0,0) _ rfl (heap_setRow_same _ ((heap_setCell_other _ _ _ _ (by simp)).trans ((heap_setCell_other _ _ _ _ (by simp)).trans ((heap_setCell_other _ _ _ _ (by simp)).trans ((heap_setCell_other _ _ _ _ (by simp)).trans HZ.out))))) Tryz.underlying125 rfl (by kernel_rfl)) rfl ⟨rfl,?_⟩
  refine Below.setRow' ?_ (by omega) _
  exact((((hB.drew.setCell (by simp;omega) _).setCell (by simp;omega) _).setCell (by simp;omega) _).setCell (by simp;omega) _)
theorem bare_0 (nt nr ni pt pr pi:Int) (name:ByteArray) (dir:Bool) (dA:Option Addr) (dn dc:Nat) (at_ ar ai et er ei:Int) (text:ByteArray) (eA:Option Addr) (en ec:Nat) (b1 b3 b4 b5:Bool) (e4:∀w,(binOp .eql 108 (.agg #[.int .i64 0,.int .i64 0,.int .i64 0]) (.agg #[.int .i64 at_,.int .i64 ar,.int .i64 ai])).run Tryz.prog w= .ok (.bool b4) w) (e5:∀w,(binOp .eql 108 (.agg #[.int .i64 0,.int .i64 0,.int .i64 0]) (.agg #[.int .i64 et,.int .i64 er,.int .i64 ei])).run Tryz.prog w= .ok (.bool b5) w) (w:World):
    Calls Tryz.prog 149 #[.agg #[.int .i64 0,.int .i64 nt,.int .i64 nr,.int .i64 ni,.int .i64 pt,.int .i64 pr,.int .i64 pi,.string name,.bool dir,.slice dA dn dc,.int .i64 at_,.int .i64 ar,.int .i64 ai,.int .i64 et,.int .i64 er,.int .i64 ei,.string text,.slice eA en ec]] w fun e w'=>e= .returned (.bool (b4 && b5 && decide (text.toList=[]) && decide (dn=0) && decide (en=0)))∧Below w.heap.size w w':=by
  have HP:=hid (fun w=>plain_0 nt nr ni pt pr pi name dir dA dn dc at_ ar ai et er ei text eA en ec w)
  have e1:=eq_id pt pr pi pt pr pi true (Gid.eqb_iff.2 rfl)
  go_enter Tryz.func149,Tryz.ntmps149
  go_upto_region 2 with(first
    |(go_at_call 185;refine(HP.out _).mono ?_;rintro e w1 ⟨rfl,hB1⟩)
    |(refine store_last rfl _ _ _ rfl _ _ _ _ rfl ?_ rfl ?_ ?_ ?_ ?_;(focus(simp;done));kernel_rfl;rfl;rfl)
    |(refine load_last rfl _ _ rfl _ _ _ _ rfl ?_ Tryz.underlying125 rfl ?_ ?_;(focus(simp;done));kernel_rfl))
  have hA1:w1.heap[w.heap.size]? =some (.cells #[.int .i64 0,.int .i64 nt,.int .i64 nr,.int .i64 ni,.int .i64 pt,.int .i64 pr,.int .i64 pi,.string name,.bool dir,.slice dA dn dc,.int .i64 at_,.int .i64 ar,.int .i64 ai,.int .i64 et,.int .i64 er,.int .i64 ei,.string text,.slice eA en ec] 125 (0,0)):=(hB1.block _ (by simp)).trans (heap_alloc_new _ _)
  have hs1:w.heap.size<w1.heap.size:=by have:=hB1.size;simp at this;omega
  generalize hW:w1.alloc (.cells #[.int .i64 0,.int .i64 nt,.int .i64 nr,.int .i64 ni,.int .i64 pt,.int .i64 pr,.int .i64 pi,.string name,.bool dir,.slice none 0 0,.int .i64 0,.int .i64 0,.int .i64 0,.int .i64 0,.int .i64 0,.int .i64 0,.string ⟨#[]⟩,.slice none 0 0] 125)=W
  have hA:W.heap[w.heap.size]? =some (.cells #[.int .i64 0,.int .i64 nt,.int .i64 nr,.int .i64 ni,.int .i64 pt,.int .i64 pr,.int .i64 pi,.string name,.bool dir,.slice dA dn dc,.int .i64 at_,.int .i64 ar,.int .i64 ai,.int .i64 et,.int .i64 er,.int .i64 ei,.string text,.slice eA en ec] 125 (0,0)):=by subst hW;exact(Below.heap_alloc _ _ _ hs1).trans hA1
  have hC:W.heap[w1.heap.size]? =some (.cells #[.int .i64 0,.int .i64 nt,.int .i64 nr,.int .i64 ni,.int .i64 pt,.int .i64 pr,.int .i64 pi,.string name,.bool dir,.slice none 0 0,.int .i64 0,.int .i64 0,.int .i64 0,.int .i64 0,.int .i64 0,.int .i64 0,.string ⟨#[]⟩,.slice none 0 0] 125 (0,0)):=by subst hW;exact heap_alloc_new _ _
  have hB:Below w.heap.size w W:=by subst hW;exact(((Below.refl _ _).alloc (Nat.le_refl _) _).trans (hB1.mono (by simp))).alloc (by omega) _
  clear hW hA1
  have r4:=cw4 hA
  have s4:=cw4 hC
  have r5:=cw5 hA
  have s5:=cw5 hC
  have r6:=cw6 hA
  have s6:=cw6 hC
  have r7:=cw7 hA
  have s7:=cw7 hC
  have r8:=cw8 hA
  have s8:=cw8 hC
  have r9:=cw9 hA
  have s9:=cw9 hC
  have r10:=cw10 hA
  have s10:=cw10 hC
  have r11:=cw11 hA
  have s11:=cw11 hC
  have r12:=cw12 hA
  have s12:=cw12 hC
  have r13:=cw13 hA
  have s13:=cw13 hC
  have r14:=cw14 hA
  have s14:=cw14 hC
  have r15:=cw15 hA
  have s15:=cw15 hC
  have r16:=cw16 hA
  have s16:=cw16 hC
  have r17:=cw17 hA
  have s17:=cw17 hC
  clear hA hC HP
  go_wp2
  all_goals
    go_ret
    refine⟨ret_bool ?_,hB⟩
    first
      |(simp[*];done)
      | (have hd:dn=0:=by omega
         have hde:((dn:Int) == (en:Int))=decide (en=0):=by rw[Bool.eq_iff_iff,beq_iff_eq,decide_eq_true_eq];omega
         rw[hde,decide_eq_true hd]
         rename_i hz
         clear hz hd hde
         simp[*];done)
      | (have hde:((0:Int) == (en:Int))=decide (en=0):=by rw[Bool.eq_iff_iff,beq_iff_eq,decide_eq_true_eq];omega
         rw[hde]
         clear hde
         simp[*];done)
      | (have hde:((0:Int) == (dn:Int))=decide (dn=0):=by rw[Bool.eq_iff_iff,beq_iff_eq,decide_eq_true_eq];omega
         rw[hde]
         clear hde
         simp[*];done)
      | (have hd:dn=0:=by omega
         rw[decide_eq_true hd]
         rename_i hz
         clear hz hd
         simp[*];done)
      | (have hnd:¬dn=0:=by omega
         rw[decide_eq_false hnd]
         simp;done)
theorem plain_1 (nt nr ni pt pr pi:Int) (name:ByteArray) (dir:Bool) (dA:Option Addr) (dn dc:Nat) (at_ ar ai et er ei:Int) (text:ByteArray) (eA:Option Addr) (en ec:Nat) (w:World):
  Calls Tryz.prog 185 #[.agg #[.int .i64 1,.int .i64 nt,.int .i64 nr,.int .i64 ni,.int .i64 pt,.int .i64 pr,.int .i64 pi,.string name,.bool dir,.slice dA dn dc,.int .i64 at_,.int .i64 ar,.int .i64 ai,.int .i64 et,.int .i64 er,.int .i64 ei,.string text,.slice eA en ec]] w fun e w'=>e= .returned (.agg #[.int .i64 1,.int .i64 nt,.int .i64 nr,.int .i64 ni,.int .i64 pt,.int .i64 pr,.int .i64 pi,.string name,.bool false,.slice none 0 0,.int .i64 0,.int .i64 0,.int .i64 0,.int .i64 0,.int .i64 0,.int .i64 0,.string ⟨#[]⟩,.slice none 0 0])∧Below w.heap.size w w':=by
 go_enter Tryz.func185,Tryz.ntmps185
 go_wp2_with (first
  |(refine store_last rfl _ _ _ rfl _ _ _ _ rfl ?_ rfl ?_ ?_ ?_ ?_;(focus(simp;done));kernel_rfl;rfl;rfl)
  |(refine store_last2 rfl _ _ _ rfl _ _ _ _ rfl ?_ rfl ?_ ?_ ?_ ?_;(focus(simp;done));kernel_rfl;rfl;rfl)
  |(refine store_part rfl _ _ _ rfl _ _ _ _ _ _ rfl ?_ rfl ?_ ?_ ?_ rfl ?_;(focus(simp;done));kernel_rfl;decide;rfl)
  |(refine load_last rfl _ _ rfl _ _ _ _ rfl ?_ Tryz.underlying125 rfl ?_ ?_;(focus(simp;done));kernel_rfl))
 generalize hW:((w.alloc (.cells #[.int .i64 1,.int .i64 nt,.int .i64 nr,.int .i64 ni,.int .i64 pt,.int .i64 pr,.int .i64 pi,.string name,.bool dir,.slice dA dn dc,.int .i64 at_,.int .i64 ar,.int .i64 ai,.int .i64 et,.int .i64 er,.int .i64 ei,.string text,.slice eA en ec] 125)).alloc (.cells #[.int .i64 0,.int .i64 0,.int .i64 0,.int .i64 0,.int .i64 0,.int .i64 0,.int .i64 0,.string ⟨#[]⟩,.bool false,.slice none 0 0,.int .i64 0,.int .i64 0,.int .i64 0,.int .i64 0,.int .i64 0,.int .i64 0,.string ⟨#[]⟩,.slice none 0 0] 125)).alloc (.cells #[.int .i64 1,.int .i64 nt,.int .i64 nr,.int .i64 ni,.int .i64 0,.int .i64 0,.int .i64 0,.string ⟨#[]⟩,.bool false,.slice none 0 0,.int .i64 0,.int .i64 0,.int .i64 0,.int .i64 0,.int .i64 0,.int .i64 0,.string ⟨#[]⟩,.slice none 0 0] 125)=W
 have hA:W.heap[w.heap.size]? =some (.cells #[.int .i64 1,.int .i64 nt,.int .i64 nr,.int .i64 ni,.int .i64 pt,.int .i64 pr,.int .i64 pi,.string name,.bool dir,.slice dA dn dc,.int .i64 at_,.int .i64 ar,.int .i64 ai,.int .i64 et,.int .i64 er,.int .i64 ei,.string text,.slice eA en ec] 125 (0,0)):=by subst hW;exact(Below.heap_alloc _ _ _ (by simp;omega)).trans ((Below.heap_alloc _ _ _ (by simp)).trans (heap_alloc_new _ _))
 have hZ:W.heap[w.heap.size+1]? =some (.cells #[.int .i64 0,.int .i64 0,.int .i64 0,.int .i64 0,.int .i64 0,.int .i64 0,.int .i64 0,.string ⟨#[]⟩,.bool false,.slice none 0 0,.int .i64 0,.int .i64 0,.int .i64 0,.int .i64 0,.int .i64 0,.int .i64 0,.string ⟨#[]⟩,.slice none 0 0] 125 (0,0)):=by subst hW;exact(Below.heap_alloc _ _ _ (by simp)).trans (heap_alloc_newB _ _ (by simp))
 have hC:W.heap[w.heap.size+1+1]? =some (.cells #[.int .i64 1,.int .i64 nt,.int .i64 nr,.int .i64 ni,.int .i64 0,.int .i64 0,.int .i64 0,.string ⟨#[]⟩,.bool false,.slice none 0 0,.int .i64 0,.int .i64 0,.int .i64 0,.int .i64 0,.int .i64 0,.int .i64 0,.string ⟨#[]⟩,.slice none 0 0] 125 (0,0)):=by subst hW;exact heap_alloc_newB _ _ (by simp)
 have hB:Below w.heap.size w W:=by subst hW;exact(((Below.refl _ _).alloc (Nat.le_refl _) _).alloc (by simp) _).alloc (by simp;omega) _
 clear hW
 have r4:=cw4 hA
 have s4:=cw4 hC
 have f4:W.frozen? ⟨w.heap.size+1+1,4,none⟩=false:=frozen_of_row _ _ _ _ _ hC
 have r5:=cw5 hA
 have s5:=cw5 hC
 have f5:W.frozen? ⟨w.heap.size+1+1,5,none⟩=false:=frozen_of_row _ _ _ _ _ hC
 have r6:=cw6 hA
 have s6:=cw6 hC
 have f6:W.frozen? ⟨w.heap.size+1+1,6,none⟩=false:=frozen_of_row _ _ _ _ _ hC
 have r7:=cw7 hA
 have s7:=cw7 hC
 have f7:W.frozen? ⟨w.heap.size+1+1,7,none⟩=false:=frozen_of_row _ _ _ _ _ hC
 have HA:=hid hA
 have HZ:=hid hZ
 have HC:=hid hC
 clear hA hZ hC
 go_region_held3 (fun w'=>w'.cell? ⟨w.heap.size,4,none⟩=some (.int .i64 pt)∧w'.cell? ⟨w.heap.size,5,none⟩=some (.int .i64 pr)∧w'.cell? ⟨w.heap.size,6,none⟩=some (.int .i64 pi)∧w'.cell? ⟨w.heap.size,7,none⟩=some (.string name)) ((refine⟨?_,?_,?_,?_⟩<;>((try rw[World.cell?_drew]);(repeat(refine(World.cell?_setCell_other _ _ _ _ ?_).trans ?_;(focus(intro e;injection e with e1 _;omega))));assumption))) (fail)
 all_goals
  go_wp2_with (first
   |(refine load_at rfl _ _ rfl (w.heap.size+1+1) _ _ _ rfl (heap_setCell_same _ _ _ _ _ _ (heap_setCell_same _ _ _ _ _ _ (heap_setCell_same _ _ _ _ _ _ (heap_setCell_same _ _ _ _ _ _ HC.out)))) Tryz.underlying125 rfl ?_ ?_;kernel_rfl)
   |(refine store_at rfl _ _ _ rfl (w.heap.size+1) _ _ _ rfl rfl ((heap_setCell_other _ _ _ _ (by simp)).trans ((heap_setCell_other _ _ _ _ (by simp)).trans ((heap_setCell_other _ _ _ _ (by simp)).trans ((heap_setCell_other _ _ _ _ (by simp)).trans HZ.out)))) ?_ ?_ ?_ ?_;kernel_rfl;rfl;rfl))
  refine bodyPost_ret (results_cell_row rfl _ _ (w.heap.size+1) _ _ (0,0) _ rfl (heap_setRow_same _ ((heap_setCell_other _ _ _ _ (by simp)).trans ((heap_setCell_other _ _ _ _ (by simp)).trans ((heap_setCell_other _ _ _ _ (by simp)).trans ((heap_setCell_other _ _ _ _ (by simp)).trans HZ.out))))) Tryz.underlying125 rfl (by kernel_rfl)) rfl ⟨rfl,?_⟩
  refine Below.setRow' ?_ (by omega) _
  exact((((hB.drew.setCell (by simp;omega) _).setCell (by simp;omega) _).setCell (by simp;omega) _).setCell (by simp;omega) _)
theorem bare_1 (nt nr ni pt pr pi:Int) (name:ByteArray) (dir:Bool) (dA:Option Addr) (dn dc:Nat) (at_ ar ai et er ei:Int) (text:ByteArray) (eA:Option Addr) (en ec:Nat) (b1 b3 b4 b5:Bool) (e3:∀w,(binOp .eql 4 (.bool false) (.bool dir)).run Tryz.prog w= .ok (.bool b3) w) (e4:∀w,(binOp .eql 108 (.agg #[.int .i64 0,.int .i64 0,.int .i64 0]) (.agg #[.int .i64 at_,.int .i64 ar,.int .i64 ai])).run Tryz.prog w= .ok (.bool b4) w) (e5:∀w,(binOp .eql 108 (.agg #[.int .i64 0,.int .i64 0,.int .i64 0]) (.agg #[.int .i64 et,.int .i64 er,.int .i64 ei])).run Tryz.prog w= .ok (.bool b5) w) (w:World):
    Calls Tryz.prog 149 #[.agg #[.int .i64 1,.int .i64 nt,.int .i64 nr,.int .i64 ni,.int .i64 pt,.int .i64 pr,.int .i64 pi,.string name,.bool dir,.slice dA dn dc,.int .i64 at_,.int .i64 ar,.int .i64 ai,.int .i64 et,.int .i64 er,.int .i64 ei,.string text,.slice eA en ec]] w fun e w'=>e= .returned (.bool (b3 && b4 && b5 && decide (text.toList=[]) && decide (dn=0) && decide (en=0)))∧Below w.heap.size w w':=by
  have HP:=hid (fun w=>plain_1 nt nr ni pt pr pi name dir dA dn dc at_ ar ai et er ei text eA en ec w)
  have e1:=eq_id pt pr pi pt pr pi true (Gid.eqb_iff.2 rfl)
  go_enter Tryz.func149,Tryz.ntmps149
  go_upto_region 2 with(first
    |(go_at_call 185;refine(HP.out _).mono ?_;rintro e w1 ⟨rfl,hB1⟩)
    |(refine store_last rfl _ _ _ rfl _ _ _ _ rfl ?_ rfl ?_ ?_ ?_ ?_;(focus(simp;done));kernel_rfl;rfl;rfl)
    |(refine load_last rfl _ _ rfl _ _ _ _ rfl ?_ Tryz.underlying125 rfl ?_ ?_;(focus(simp;done));kernel_rfl))
  have hA1:w1.heap[w.heap.size]? =some (.cells #[.int .i64 1,.int .i64 nt,.int .i64 nr,.int .i64 ni,.int .i64 pt,.int .i64 pr,.int .i64 pi,.string name,.bool dir,.slice dA dn dc,.int .i64 at_,.int .i64 ar,.int .i64 ai,.int .i64 et,.int .i64 er,.int .i64 ei,.string text,.slice eA en ec] 125 (0,0)):=(hB1.block _ (by simp)).trans (heap_alloc_new _ _)
  have hs1:w.heap.size<w1.heap.size:=by have:=hB1.size;simp at this;omega
  generalize hW:w1.alloc (.cells #[.int .i64 1,.int .i64 nt,.int .i64 nr,.int .i64 ni,.int .i64 pt,.int .i64 pr,.int .i64 pi,.string name,.bool false,.slice none 0 0,.int .i64 0,.int .i64 0,.int .i64 0,.int .i64 0,.int .i64 0,.int .i64 0,.string ⟨#[]⟩,.slice none 0 0] 125)=W
  have hA:W.heap[w.heap.size]? =some (.cells #[.int .i64 1,.int .i64 nt,.int .i64 nr,.int .i64 ni,.int .i64 pt,.int .i64 pr,.int .i64 pi,.string name,.bool dir,.slice dA dn dc,.int .i64 at_,.int .i64 ar,.int .i64 ai,.int .i64 et,.int .i64 er,.int .i64 ei,.string text,.slice eA en ec] 125 (0,0)):=by subst hW;exact(Below.heap_alloc _ _ _ hs1).trans hA1
  have hC:W.heap[w1.heap.size]? =some (.cells #[.int .i64 1,.int .i64 nt,.int .i64 nr,.int .i64 ni,.int .i64 pt,.int .i64 pr,.int .i64 pi,.string name,.bool false,.slice none 0 0,.int .i64 0,.int .i64 0,.int .i64 0,.int .i64 0,.int .i64 0,.int .i64 0,.string ⟨#[]⟩,.slice none 0 0] 125 (0,0)):=by subst hW;exact heap_alloc_new _ _
  have hB:Below w.heap.size w W:=by subst hW;exact(((Below.refl _ _).alloc (Nat.le_refl _) _).trans (hB1.mono (by simp))).alloc (by omega) _
  clear hW hA1
  have r4:=cw4 hA
  have s4:=cw4 hC
  have r5:=cw5 hA
  have s5:=cw5 hC
  have r6:=cw6 hA
  have s6:=cw6 hC
  have r7:=cw7 hA
  have s7:=cw7 hC
  have r8:=cw8 hA
  have s8:=cw8 hC
  have r9:=cw9 hA
  have s9:=cw9 hC
  have r10:=cw10 hA
  have s10:=cw10 hC
  have r11:=cw11 hA
  have s11:=cw11 hC
  have r12:=cw12 hA
  have s12:=cw12 hC
  have r13:=cw13 hA
  have s13:=cw13 hC
  have r14:=cw14 hA
  have s14:=cw14 hC
  have r15:=cw15 hA
  have s15:=cw15 hC
  have r16:=cw16 hA
  have s16:=cw16 hC
  have r17:=cw17 hA
  have s17:=cw17 hC
  clear hA hC HP
  go_wp2
  all_goals
    go_ret
    refine⟨ret_bool ?_,hB⟩
    first
      |(simp[*];done)
      | (have hd:dn=0:=by omega
         have hde:((dn:Int) == (en:Int))=decide (en=0):=by rw[Bool.eq_iff_iff,beq_iff_eq,decide_eq_true_eq];omega
         rw[hde,decide_eq_true hd]
         rename_i hz
         clear hz hd hde
         simp[*];done)
      | (have hde:((0:Int) == (en:Int))=decide (en=0):=by rw[Bool.eq_iff_iff,beq_iff_eq,decide_eq_true_eq];omega
         rw[hde]
         clear hde
         simp[*];done)
      | (have hde:((0:Int) == (dn:Int))=decide (dn=0):=by rw[Bool.eq_iff_iff,beq_iff_eq,decide_eq_true_eq];omega
         rw[hde]
         clear hde
         simp[*];done)
      | (have hd:dn=0:=by omega
         rw[decide_eq_true hd]
         rename_i hz
         clear hz hd
         simp[*];done)
      | (have hnd:¬dn=0:=by omega
         rw[decide_eq_false hnd]
         simp;done)
end
section
open Go.RowKit Go.Lib Go.Sort
set_option linter.unusedVariables false
attribute [local go_sem ↓] Go.wp_at_zero Go.wp_at_succ
def PlCut (w:World) (c z:Array Value) (T:TypeId) (wx:World):Prop:=wx.heap[w.heap.size+1+1]? =some (.cells c T (0,0))∧wx.heap[w.heap.size+1]? =some (.cells z T (0,0))∧Below w.heap.size w wx
theorem drew_heap (w:World) (k:Nat):w.drew.heap[k]? =w.heap[k]? :=rfl
theorem heap_alloc_newC (w:World) (o:Obj) {n:Nat} (h:w.heap.size=n):(w.alloc o).heap[n]? =some o:=by subst h;exact heap_alloc_new w o
theorem plain_3 (nt nr ni pt pr pi:Int) (name:ByteArray) (dir:Bool) (dA:Option Addr) (dn dc:Nat) (at_ ar ai et er ei:Int) (text:ByteArray) (eA:Option Addr) (en ec:Nat) (w:World):
  Calls Tryz.prog 185 #[.agg #[.int .i64 3,.int .i64 nt,.int .i64 nr,.int .i64 ni,.int .i64 pt,.int .i64 pr,.int .i64 pi,.string name,.bool dir,.slice dA dn dc,.int .i64 at_,.int .i64 ar,.int .i64 ai,.int .i64 et,.int .i64 er,.int .i64 ei,.string text,.slice eA en ec]] w fun e w'=>e= .returned (.agg #[.int .i64 3,.int .i64 nt,.int .i64 nr,.int .i64 ni,.int .i64 0,.int .i64 0,.int .i64 0,.string ⟨#[]⟩,.bool false,.slice none 0 0,.int .i64 at_,.int .i64 ar,.int .i64 ai,.int .i64 et,.int .i64 er,.int .i64 ei,.string text,.slice none 0 0])∧Below w.heap.size w w':=by
 go_enter Tryz.func185,Tryz.ntmps185
 go_upto_region 11 with(first
  |(refine store_last rfl _ _ _ rfl _ _ _ _ rfl ?_ rfl ?_ ?_ ?_ ?_;(focus(simp;done));kernel_rfl;rfl;rfl)
  |(refine store_last2 rfl _ _ _ rfl _ _ _ _ rfl ?_ rfl ?_ ?_ ?_ ?_;(focus(simp;done));kernel_rfl;rfl;rfl)
  |(refine store_part rfl _ _ _ rfl _ _ _ _ _ _ rfl ?_ rfl ?_ ?_ ?_ rfl ?_;(focus(simp;done));kernel_rfl;decide;rfl)
  |(refine load_last rfl _ _ rfl _ _ _ _ rfl ?_ Tryz.underlying125 rfl ?_ ?_;(focus(simp;done));kernel_rfl))
 generalize hW:((w.alloc (.cells #[.int .i64 3,.int .i64 nt,.int .i64 nr,.int .i64 ni,.int .i64 pt,.int .i64 pr,.int .i64 pi,.string name,.bool dir,.slice dA dn dc,.int .i64 at_,.int .i64 ar,.int .i64 ai,.int .i64 et,.int .i64 er,.int .i64 ei,.string text,.slice eA en ec] 125)).alloc (.cells #[.int .i64 0,.int .i64 0,.int .i64 0,.int .i64 0,.int .i64 0,.int .i64 0,.int .i64 0,.string ⟨#[]⟩,.bool false,.slice none 0 0,.int .i64 0,.int .i64 0,.int .i64 0,.int .i64 0,.int .i64 0,.int .i64 0,.string ⟨#[]⟩,.slice none 0 0] 125)).alloc (.cells #[.int .i64 3,.int .i64 nt,.int .i64 nr,.int .i64 ni,.int .i64 0,.int .i64 0,.int .i64 0,.string ⟨#[]⟩,.bool false,.slice none 0 0,.int .i64 0,.int .i64 0,.int .i64 0,.int .i64 0,.int .i64 0,.int .i64 0,.string ⟨#[]⟩,.slice none 0 0] 125)=W
 have hA:W.heap[w.heap.size]? =some (.cells #[.int .i64 3,.int .i64 nt,.int .i64 nr,.int .i64 ni,.int .i64 pt,.int .i64 pr,.int .i64 pi,.string name,.bool dir,.slice dA dn dc,.int .i64 at_,.int .i64 ar,.int .i64 ai,.int .i64 et,.int .i64 er,.int .i64 ei,.string text,.slice eA en ec] 125 (0,0)):=by subst hW;exact(Below.heap_alloc _ _ _ (by simp;omega)).trans ((Below.heap_alloc _ _ _ (by simp)).trans (heap_alloc_new _ _))
 have hZ:W.heap[w.heap.size+1]? =some (.cells #[.int .i64 0,.int .i64 0,.int .i64 0,.int .i64 0,.int .i64 0,.int .i64 0,.int .i64 0,.string ⟨#[]⟩,.bool false,.slice none 0 0,.int .i64 0,.int .i64 0,.int .i64 0,.int .i64 0,.int .i64 0,.int .i64 0,.string ⟨#[]⟩,.slice none 0 0] 125 (0,0)):=by subst hW;exact(Below.heap_alloc _ _ _ (by simp)).trans (heap_alloc_newC _ _ (by simp))
 have hC:W.heap[w.heap.size+1+1]? =some (.cells #[.int .i64 3,.int .i64 nt,.int .i64 nr,.int .i64 ni,.int .i64 0,.int .i64 0,.int .i64 0,.string ⟨#[]⟩,.bool false,.slice none 0 0,.int .i64 0,.int .i64 0,.int .i64 0,.int .i64 0,.int .i64 0,.int .i64 0,.string ⟨#[]⟩,.slice none 0 0] 125 (0,0)):=by subst hW;exact heap_alloc_newC _ _ (by simp)
 have hB:Below w.heap.size w W:=by subst hW;exact(((Below.refl _ _).alloc (Nat.le_refl _) _).alloc (by simp) _).alloc (by simp;omega) _
 clear hW
 have rA:∀i,W.cell? ⟨w.heap.size,i,none⟩=#[.int .i64 3,.int .i64 nt,.int .i64 nr,.int .i64 ni,.int .i64 pt,.int .i64 pr,.int .i64 pi,.string name,.bool dir,.slice dA dn dc,.int .i64 at_,.int .i64 ar,.int .i64 ai,.int .i64 et,.int .i64 er,.int .i64 ei,.string text,.slice eA en ec][i]? :=fun i=>cell_of_row _ _ _ _ _ _ hA
 have s10:=cw10 hC
 have s11:=cw11 hC
 have s12:=cw12 hC
 have s13:=cw13 hC
 have s14:=cw14 hC
 have s15:=cw15 hC
 have s16:=cw16 hC
 have fC:∀i,W.frozen? ⟨w.heap.size+1+1,i,none⟩=false:=fun i=>frozen_of_row _ _ _ _ _ hC
 have HA:=hid hA
 have HZ:=hid hZ
 have HC:=hid hC
 clear hA hZ hC
 go_cut [] (fun wx=>PlCut w #[.int .i64 3,.int .i64 nt,.int .i64 nr,.int .i64 ni,.int .i64 0,.int .i64 0,.int .i64 0,.string ⟨#[]⟩,.bool false,.slice none 0 0,.int .i64 at_,.int .i64 ar,.int .i64 ai,.int .i64 et,.int .i64 er,.int .i64 ei,.string text,.slice none 0 0] #[.int .i64 0,.int .i64 0,.int .i64 0,.int .i64 0,.int .i64 0,.int .i64 0,.int .i64 0,.string ⟨#[]⟩,.bool false,.slice none 0 0,.int .i64 0,.int .i64 0,.int .i64 0,.int .i64 0,.int .i64 0,.int .i64 0,.string ⟨#[]⟩,.slice none 0 0] 125 wx)
 case first=>
  go_region_held3 (fun w'=>∀i,w'.cell? ⟨w.heap.size,i,none⟩=#[.int .i64 3,.int .i64 nt,.int .i64 nr,.int .i64 ni,.int .i64 pt,.int .i64 pr,.int .i64 pi,.string name,.bool dir,.slice dA dn dc,.int .i64 at_,.int .i64 ar,.int .i64 ai,.int .i64 et,.int .i64 er,.int .i64 ei,.string text,.slice eA en ec][i]?) ((intro i;(try rw[World.cell?_drew]);(repeat(refine(World.cell?_setCell_other _ _ _ _ ?_).trans ?_;(focus(intro e;injection e with e1 _;omega))));exact rA i)) (fail)
  all_goals(go_wp2_with fail;go_meet;refine⟨(drew_heap _ _).trans (Eq.trans (heap_setCell_same _ _ _ _ _ _ (heap_setCell_same _ _ _ _ _ _ (heap_setCell_same _ _ _ _ _ _ (heap_setCell_same _ _ _ _ _ _ (heap_setCell_same _ _ _ _ _ _ (heap_setCell_same _ _ _ _ _ _ (heap_setCell_same _ _ _ _ _ _ (HC.out)))))))) (by simp)),(drew_heap _ _).trans ((heap_setCell_other _ _ _ _ (by simp)).trans ((heap_setCell_other _ _ _ _ (by simp)).trans ((heap_setCell_other _ _ _ _ (by simp)).trans ((heap_setCell_other _ _ _ _ (by simp)).trans ((heap_setCell_other _ _ _ _ (by simp)).trans ((heap_setCell_other _ _ _ _ (by simp)).trans ((heap_setCell_other _ _ _ _ (by simp)).trans (HZ.out)))))))),(((((((hB.setCell (by simp;omega) _).setCell (by simp;omega) _).setCell (by simp;omega) _).setCell (by simp;omega) _).setCell (by simp;omega) _).setCell (by simp;omega) _).setCell (by simp;omega) _).drew⟩)
 case rest=>
  obtain⟨hC2,hZ2,hB2⟩:=hcut
  have HC2:=hid hC2
  have HZ2:=hid hZ2
  clear hC2 hZ2
  go_wp2_with (first
   |(refine load_at rfl _ _ rfl (w.heap.size+1+1) _ _ _ rfl HC2.out Tryz.underlying125 rfl ?_ ?_;kernel_rfl)
   |(refine store_at rfl _ _ _ rfl (w.heap.size+1) _ _ _ rfl rfl HZ2.out ?_ ?_ ?_ ?_;kernel_rfl;rfl;rfl))
  refine bodyPost_ret (results_cell_row rfl _ _ (w.heap.size+1) _ _ (0,0) _ rfl (heap_setRow_same _ HZ2.out) Tryz.underlying125 rfl (by kernel_rfl)) rfl ⟨rfl,?_⟩
  exact Below.setRow' hB2 (by omega) _
theorem bare_3 (nt nr ni pt pr pi:Int) (name:ByteArray) (dir:Bool) (dA:Option Addr) (dn dc:Nat) (at_ ar ai et er ei:Int) (text:ByteArray) (eA:Option Addr) (en ec:Nat) (b1 b3 b4 b5:Bool) (e1:∀w,(binOp .eql 108 (.agg #[.int .i64 0,.int .i64 0,.int .i64 0]) (.agg #[.int .i64 pt,.int .i64 pr,.int .i64 pi])).run Tryz.prog w= .ok (.bool b1) w) (e3:∀w,(binOp .eql 4 (.bool false) (.bool dir)).run Tryz.prog w= .ok (.bool b3) w) (w:World):
    Calls Tryz.prog 149 #[.agg #[.int .i64 3,.int .i64 nt,.int .i64 nr,.int .i64 ni,.int .i64 pt,.int .i64 pr,.int .i64 pi,.string name,.bool dir,.slice dA dn dc,.int .i64 at_,.int .i64 ar,.int .i64 ai,.int .i64 et,.int .i64 er,.int .i64 ei,.string text,.slice eA en ec]] w fun e w'=>e= .returned (.bool (b1 && decide (name.toList=[]) && b3 && decide (dn=0) && decide (en=0)))∧Below w.heap.size w w':=by
  have HP:=hid (fun w=>plain_3 nt nr ni pt pr pi name dir dA dn dc at_ ar ai et er ei text eA en ec w)
  have e4:=eq_id at_ ar ai at_ ar ai true (Gid.eqb_iff.2 rfl)
  have e5:=eq_id et er ei et er ei true (Gid.eqb_iff.2 rfl)
  go_enter Tryz.func149,Tryz.ntmps149
  go_upto_region 2 with(first
    |(go_at_call 185;refine(HP.out _).mono ?_;rintro e w1 ⟨rfl,hB1⟩)
    |(refine store_last rfl _ _ _ rfl _ _ _ _ rfl ?_ rfl ?_ ?_ ?_ ?_;(focus(simp;done));kernel_rfl;rfl;rfl)
    |(refine load_last rfl _ _ rfl _ _ _ _ rfl ?_ Tryz.underlying125 rfl ?_ ?_;(focus(simp;done));kernel_rfl))
  have hA1:w1.heap[w.heap.size]? =some (.cells #[.int .i64 3,.int .i64 nt,.int .i64 nr,.int .i64 ni,.int .i64 pt,.int .i64 pr,.int .i64 pi,.string name,.bool dir,.slice dA dn dc,.int .i64 at_,.int .i64 ar,.int .i64 ai,.int .i64 et,.int .i64 er,.int .i64 ei,.string text,.slice eA en ec] 125 (0,0)):=(hB1.block _ (by simp)).trans (heap_alloc_new _ _)
  have hs1:w.heap.size<w1.heap.size:=by have:=hB1.size;simp at this;omega
  generalize hW:w1.alloc (.cells #[.int .i64 3,.int .i64 nt,.int .i64 nr,.int .i64 ni,.int .i64 0,.int .i64 0,.int .i64 0,.string ⟨#[]⟩,.bool false,.slice none 0 0,.int .i64 at_,.int .i64 ar,.int .i64 ai,.int .i64 et,.int .i64 er,.int .i64 ei,.string text,.slice none 0 0] 125)=W
  have hA:W.heap[w.heap.size]? =some (.cells #[.int .i64 3,.int .i64 nt,.int .i64 nr,.int .i64 ni,.int .i64 pt,.int .i64 pr,.int .i64 pi,.string name,.bool dir,.slice dA dn dc,.int .i64 at_,.int .i64 ar,.int .i64 ai,.int .i64 et,.int .i64 er,.int .i64 ei,.string text,.slice eA en ec] 125 (0,0)):=by subst hW;exact(Below.heap_alloc _ _ _ hs1).trans hA1
  have hC:W.heap[w1.heap.size]? =some (.cells #[.int .i64 3,.int .i64 nt,.int .i64 nr,.int .i64 ni,.int .i64 0,.int .i64 0,.int .i64 0,.string ⟨#[]⟩,.bool false,.slice none 0 0,.int .i64 at_,.int .i64 ar,.int .i64 ai,.int .i64 et,.int .i64 er,.int .i64 ei,.string text,.slice none 0 0] 125 (0,0)):=by subst hW;exact heap_alloc_new _ _
  have hB:Below w.heap.size w W:=by subst hW;exact(((Below.refl _ _).alloc (Nat.le_refl _) _).trans (hB1.mono (by simp))).alloc (by omega) _
  clear hW hA1
  have r4:=cw4 hA
  have s4:=cw4 hC
  have r5:=cw5 hA
  have s5:=cw5 hC
  have r6:=cw6 hA
  have s6:=cw6 hC
  have r7:=cw7 hA
  have s7:=cw7 hC
  have r8:=cw8 hA
  have s8:=cw8 hC
  have r9:=cw9 hA
  have s9:=cw9 hC
  have r10:=cw10 hA
  have s10:=cw10 hC
  have r11:=cw11 hA
  have s11:=cw11 hC
  have r12:=cw12 hA
  have s12:=cw12 hC
  have r13:=cw13 hA
  have s13:=cw13 hC
  have r14:=cw14 hA
  have s14:=cw14 hC
  have r15:=cw15 hA
  have s15:=cw15 hC
  have r16:=cw16 hA
  have s16:=cw16 hC
  have r17:=cw17 hA
  have s17:=cw17 hC
  clear hA hC HP
  go_wp2
  all_goals
    go_ret
    refine⟨ret_bool ?_,hB⟩
    first
      |(simp[*];done)
      | (have hd:dn=0:=by omega
         have hde:((dn:Int) == (en:Int))=decide (en=0):=by rw[Bool.eq_iff_iff,beq_iff_eq,decide_eq_true_eq];omega
         rw[hde,decide_eq_true hd]
         rename_i hz
         clear hz hd hde
         simp[*];done)
      | (have hde:((0:Int) == (en:Int))=decide (en=0):=by rw[Bool.eq_iff_iff,beq_iff_eq,decide_eq_true_eq];omega
         rw[hde]
         clear hde
         simp[*];done)
      | (have hde:((0:Int) == (dn:Int))=decide (dn=0):=by rw[Bool.eq_iff_iff,beq_iff_eq,decide_eq_true_eq];omega
         rw[hde]
         clear hde
         simp[*];done)
      | (have hd:dn=0:=by omega
         rw[decide_eq_true hd]
         rename_i hz
         clear hz hd
         simp[*];done)
      | (have hnd:¬dn=0:=by omega
         rw[decide_eq_false hnd]
         simp;done)
end
section
open Go.RowKit Go.Lib Go.Sort
set_option linter.unusedVariables false
theorem Gid.eqb_comm (a b:Gid):a.eqb b=b.eqb a:=by
 rw[Bool.eq_iff_iff,Gid.eqb_iff,Gid.eqb_iff];exact eq_comm
theorem eq_none (x:Gid) (w:World):(binOp .eql 108 (.agg #[.int .i64 0,.int .i64 0,.int .i64 0]) (.agg #[.int .i64 x.s.t,.int .i64 x.s.r,.int .i64 x.i])).run Tryz.prog w= .ok (.bool x.none) w:=
 eq_id 0 0 0 x.s.t x.s.r x.i x.none (Gid.eqb_comm _ _) w
theorem eq_false (d:Bool) (w:World):(binOp .eql 4 (.bool false) (.bool d)).run Tryz.prog w= .ok (.bool (!d)) w:=by
 cases d<;>go_simp
theorem strl (s:ByteArray):s.toList=s.data.toList:=ByteArray.toList_eq s
theorem bare_any (o:Gop) (x:OpX) (w:World):
  Calls Tryz.prog 149 #[.agg (opA o x)] w fun e w'=>e= .returned (.bool (bareB o))∧Below w.heap.size w w':=by
 obtain⟨kind,node,parent,name,dir,dots,after,elem,text,elems⟩:=o
 by_cases k0:kind=0
 ·subst k0
  refine(bare_0 node.s.t node.s.r node.i parent.s.t parent.s.r parent.i name dir x.dA dots.length x.dc after.s.t after.s.r after.i elem.s.t elem.s.r elem.i text x.eA elems.length x.ec true true after.none elem.none (eq_none after) (eq_none elem) w).mono ?_
  rintro e w' ⟨rfl,hB⟩
  refine⟨ret_bool ?_,hB⟩
  simp only[bareB,strl]
  generalize after.none=a;generalize elem.none=b;generalize decide (text.data.toList=[])=c;generalize decide (dots.length=0)=d;generalize decide (elems.length=0)=e
  cases a<;>cases b<;>cases c<;>cases d<;>cases e<;>simp
 by_cases k1:kind=1
 ·subst k1
  refine(bare_1 node.s.t node.s.r node.i parent.s.t parent.s.r parent.i name dir x.dA dots.length x.dc after.s.t after.s.r after.i elem.s.t elem.s.r elem.i text x.eA elems.length x.ec true (!dir) after.none elem.none (eq_false dir) (eq_none after) (eq_none elem) w).mono ?_
  rintro e w' ⟨rfl,hB⟩
  refine⟨ret_bool ?_,hB⟩
  simp only[bareB,strl]
  generalize after.none=a;generalize elem.none=b;generalize decide (text.data.toList=[])=c;generalize decide (dots.length=0)=d;generalize decide (elems.length=0)=e
  cases a<;>cases b<;>cases c<;>cases d<;>cases e<;>simp
 by_cases k2:kind=2
 ·subst k2
  refine(bare_2 node.s.t node.s.r node.i parent.s.t parent.s.r parent.i name dir x.dA dots.length x.dc after.s.t after.s.r after.i elem.s.t elem.s.r elem.i text x.eA elems.length x.ec parent.none (!dir) after.none elem.none (eq_none parent) (eq_false dir) (eq_none after) (eq_none elem) w).mono ?_
  rintro e w' ⟨rfl,hB⟩
  refine⟨ret_bool ?_,hB⟩
  simp only[bareB,strl]
  generalize after.none=a;generalize elem.none=b;generalize decide (text.data.toList=[])=c;generalize parent.none=d;generalize decide (elems.length=0)=e;generalize decide (name.data.toList=[])=f
  cases a<;>cases b<;>cases c<;>cases d<;>cases e<;>cases f<;>simp
 by_cases k3:kind=3
 ·subst k3
  refine(bare_3 node.s.t node.s.r node.i parent.s.t parent.s.r parent.i name dir x.dA dots.length x.dc after.s.t after.s.r after.i elem.s.t elem.s.r elem.i text x.eA elems.length x.ec parent.none (!dir) true true (eq_none parent) (eq_false dir) w).mono ?_
  rintro e w' ⟨rfl,hB⟩
  refine⟨ret_bool ?_,hB⟩
  simp only[bareB,strl]
  generalize decide (dots.length=0)=a;generalize parent.none=d;generalize decide (elems.length=0)=e;generalize decide (name.data.toList=[])=f
  cases a<;>cases d<;>cases e<;>cases f<;>simp
 by_cases k4:kind=4
 ·subst k4
  refine(bare_4 node.s.t node.s.r node.i parent.s.t parent.s.r parent.i name dir x.dA dots.length x.dc after.s.t after.s.r after.i elem.s.t elem.s.r elem.i text x.eA elems.length x.ec parent.none (!dir) after.none elem.none (eq_none parent) (eq_false dir) (eq_none after) (eq_none elem) w).mono ?_
  rintro e w' ⟨rfl,hB⟩
  refine⟨ret_bool ?_,hB⟩
  simp only[bareB,strl]
  generalize after.none=a;generalize elem.none=b;generalize decide (text.data.toList=[])=c;generalize parent.none=d;generalize decide (dots.length=0)=e;generalize decide (name.data.toList=[])=f
  cases a<;>cases b<;>cases c<;>cases d<;>cases e<;>cases f<;>simp
 ·refine(bare_x kind k0 k1 k2 k3 k4 node.s.t node.s.r node.i parent.s.t parent.s.r parent.i name dir x.dA dots.length x.dc after.s.t after.s.r after.i elem.s.t elem.s.r elem.i text x.eA elems.length x.ec parent.none (!dir) after.none elem.none (eq_none parent) (eq_false dir) (eq_none after) (eq_none elem) w).mono ?_
  rintro e w' ⟨rfl,hB⟩
  refine⟨ret_bool ?_,hB⟩
  simp only[bareB,strl]
  generalize after.none=a;generalize elem.none=b;generalize decide (text.data.toList=[])=c;generalize parent.none=d;generalize decide (dots.length=0)=e;generalize decide (name.data.toList=[])=f;generalize decide (elems.length=0)=g
  cases a<;>cases b<;>cases c<;>cases d<;>cases e<;>cases f<;>cases g<;>simp[k0,k1,k2,k3,k4]
end
end
end Go.Proofs.YtkhmicndehlneaaGreatDoor
