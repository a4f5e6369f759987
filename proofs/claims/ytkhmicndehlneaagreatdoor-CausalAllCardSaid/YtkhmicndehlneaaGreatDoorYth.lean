/- Part 8 of the walks and plain laws that this claim uses, joined. Conditions: as each theorem states. -/
import Derived.Test.YtkhmicndehlneaaGreatDoorYtg
namespace Go.Proofs.YtkhmicndehlneaaGreatDoor
set_option maxRecDepth 100000
set_option maxHeartbeats 16000000
section
section
open Go.RowKit Go.Lib Go.Sort
set_option linter.unusedVariables false
attribute [local go_sem ↓] Go.wp_at_zero Go.wp_at_succ
def OpEnd (b:Nat) (w:World) (ans:Bool) (k c:Nat) (w':World):Prop:=∃w2 v,Below w.heap.size w w2∧w'=w2.setCell ⟨b,7,none⟩ (.int .i64 v)∧(ans=true→v=(k:Int)+c)
theorem op_bare (b:Nat) (g:Gst) (k:Nat) (kind:Int) (nt nr ni pt pr pi:Int) (name:ByteArray) (dir:Bool) (dots:List Gst) (at_ ar ai et er ei:Int) (text:ByteArray) (elems:List Gid) (dA:Option Addr) (dc:Nat) (eA:Option Addr) (ec:Nat) (w:World) (hC:Chkr w b g k) (h:bareB (⟨kind,⟨⟨nt,nr⟩,ni⟩,⟨⟨pt,pr⟩,pi⟩,name,dir,dots,⟨⟨at_,ar⟩,ai⟩,⟨⟨et,er⟩,ei⟩,text,elems⟩:Gop)=false):
  Calls Tryz.prog 94 #[.pointer (some ⟨b,0,none⟩),.agg #[.int .i64 kind,.int .i64 nt,.int .i64 nr,.int .i64 ni,.int .i64 pt,.int .i64 pr,.int .i64 pi,.string name,.bool dir,.slice dA dots.length dc,.int .i64 at_,.int .i64 ar,.int .i64 ai,.int .i64 et,.int .i64 er,.int .i64 ei,.string text,.slice eA elems.length ec]] w fun e w'=>e= .returned (.bool false)∧Below w.heap.size w w':=by
 have HP:Hid (∀w,Calls Tryz.prog 149 #[.agg #[.int .i64 kind,.int .i64 nt,.int .i64 nr,.int .i64 ni,.int .i64 pt,.int .i64 pr,.int .i64 pi,.string name,.bool dir,.slice dA dots.length dc,.int .i64 at_,.int .i64 ar,.int .i64 ai,.int .i64 et,.int .i64 er,.int .i64 ei,.string text,.slice eA elems.length ec]] w fun e w'=>e= .returned (.bool false)∧Below w.heap.size w w'):=hid (fun w=>(bare_any (⟨kind,⟨⟨nt,nr⟩,ni⟩,⟨⟨pt,pr⟩,pi⟩,name,dir,dots,⟨⟨at_,ar⟩,ai⟩,⟨⟨et,er⟩,ei⟩,text,elems⟩:Gop) ⟨dA,dc,eA,ec⟩ w).mono (by rintro e w' ⟨rfl,hB⟩;exact⟨by rw[h],hB⟩))
 clear h
 have HC:=hid hC
 clear hC
 go_enter Tryz.func94,Tryz.ntmps94
 go_upto_region 2 with(first
  |(go_at_call 149;refine(HP.out _).mono ?_;rintro e w1 ⟨rfl,hB1⟩)
  |(refine load_last rfl _ _ rfl _ _ _ _ rfl ?_ Tryz.underlying125 rfl ?_ ?_;(focus(simp;done));kernel_rfl))
 go_wp2
 go_ret
 refine⟨rfl,?_⟩
 exact((Below.refl _ _).alloc (Nat.le_refl _) _).trans (hB1.mono (by simp))
theorem op_x (b:Nat) (g:Gst) (k:Nat) (kind:Int) (h0:¬kind=0) (h1:¬kind=1) (h2:¬kind=2) (h3:¬kind=3) (h4:¬kind=4) (nt nr ni pt pr pi:Int) (name:ByteArray) (dir:Bool) (dots:List Gst) (at_ ar ai et er ei:Int) (text:ByteArray) (elems:List Gid) (dA:Option Addr) (dc:Nat) (eA:Option Addr) (ec:Nat) (w:World) (hC:Chkr w b g k) (h:bareB (⟨kind,⟨⟨nt,nr⟩,ni⟩,⟨⟨pt,pr⟩,pi⟩,name,dir,dots,⟨⟨at_,ar⟩,ai⟩,⟨⟨et,er⟩,ei⟩,text,elems⟩:Gop)=true):
  Calls Tryz.prog 94 #[.pointer (some ⟨b,0,none⟩),.agg #[.int .i64 kind,.int .i64 nt,.int .i64 nr,.int .i64 ni,.int .i64 pt,.int .i64 pr,.int .i64 pi,.string name,.bool dir,.slice dA dots.length dc,.int .i64 at_,.int .i64 ar,.int .i64 ai,.int .i64 et,.int .i64 er,.int .i64 ei,.string text,.slice eA elems.length ec]] w fun e w'=>e= .returned (.bool false)∧Below w.heap.size w w':=by
 have HP:Hid (∀w,Calls Tryz.prog 149 #[.agg #[.int .i64 kind,.int .i64 nt,.int .i64 nr,.int .i64 ni,.int .i64 pt,.int .i64 pr,.int .i64 pi,.string name,.bool dir,.slice dA dots.length dc,.int .i64 at_,.int .i64 ar,.int .i64 ai,.int .i64 et,.int .i64 er,.int .i64 ei,.string text,.slice eA elems.length ec]] w fun e w'=>e= .returned (.bool true)∧Below w.heap.size w w'):=hid (fun w=>(bare_any (⟨kind,⟨⟨nt,nr⟩,ni⟩,⟨⟨pt,pr⟩,pi⟩,name,dir,dots,⟨⟨at_,ar⟩,ai⟩,⟨⟨et,er⟩,ei⟩,text,elems⟩:Gop) ⟨dA,dc,eA,ec⟩ w).mono (by rintro e w' ⟨rfl,hB⟩;exact⟨by rw[h],hB⟩))
 clear h
 have HC:=hid hC
 clear hC
 go_enter Tryz.func94,Tryz.ntmps94
 go_upto_region 3 with(first
  |(go_at_call 149;refine(HP.out _).mono ?_;rintro e w1 ⟨rfl,hB1⟩)
  |(refine load_last rfl _ _ rfl _ _ _ _ rfl ?_ Tryz.underlying125 rfl ?_ ?_;(focus(simp;done));kernel_rfl))
 have hA1:w1.heap[w.heap.size]? =some (.cells #[.int .i64 kind,.int .i64 nt,.int .i64 nr,.int .i64 ni,.int .i64 pt,.int .i64 pr,.int .i64 pi,.string name,.bool dir,.slice dA dots.length dc,.int .i64 at_,.int .i64 ar,.int .i64 ai,.int .i64 et,.int .i64 er,.int .i64 ei,.string text,.slice eA elems.length ec] 125 (0,0)):=(hB1.block _ (by simp)).trans (heap_alloc_new _ _)
 have r0:=cw0 hA1
 go_wp2
 go_ret
 refine⟨rfl,?_⟩
 exact((Below.refl _ _).alloc (Nat.le_refl _) _).trans (hB1.mono (by simp))
theorem op_1 (b:Nat) (g:Gst) (k:Nat) (nt nr ni pt pr pi:Int) (name:ByteArray) (dir:Bool) (dots:List Gst) (at_ ar ai et er ei:Int) (text:ByteArray) (elems:List Gid) (dA:Option Addr) (dc:Nat) (eA:Option Addr) (ec:Nat) (w:World) (hC:Chkr w b g k) (hn:name.size≤maxLen) (h:bareB (⟨1,⟨⟨nt,nr⟩,ni⟩,⟨⟨pt,pr⟩,pi⟩,name,dir,dots,⟨⟨at_,ar⟩,ai⟩,⟨⟨et,er⟩,ei⟩,text,elems⟩:Gop)=true):
  Calls Tryz.prog 94 #[.pointer (some ⟨b,0,none⟩),.agg #[.int .i64 1,.int .i64 nt,.int .i64 nr,.int .i64 ni,.int .i64 pt,.int .i64 pr,.int .i64 pi,.string name,.bool dir,.slice dA dots.length dc,.int .i64 at_,.int .i64 ar,.int .i64 ai,.int .i64 et,.int .i64 er,.int .i64 ei,.string text,.slice eA elems.length ec]] w fun e w'=>e= .returned (.bool (kindB g (⟨1,⟨⟨nt,nr⟩,ni⟩,⟨⟨pt,pr⟩,pi⟩,name,dir,dots,⟨⟨at_,ar⟩,ai⟩,⟨⟨et,er⟩,ei⟩,text,elems⟩:Gop) k))∧Below w.heap.size w w':=by
 obtain⟨ans,hans⟩:∃v,v=kindB g (⟨1,⟨⟨nt,nr⟩,ni⟩,⟨⟨pt,pr⟩,pi⟩,name,dir,dots,⟨⟨at_,ar⟩,ai⟩,⟨⟨et,er⟩,ei⟩,text,elems⟩:Gop) k:=⟨_,rfl⟩
 rw[←hans]
 have HV:Hid (ans=(aheadB g ⟨⟨nt,nr⟩,ni⟩ k && parentB g ⟨⟨pt,pr⟩,pi⟩ k && nameB name)):=hid (by rw[hans];simp[kindB])
 clear hans
 have HP:Hid (∀w,Calls Tryz.prog 149 #[.agg #[.int .i64 1,.int .i64 nt,.int .i64 nr,.int .i64 ni,.int .i64 pt,.int .i64 pr,.int .i64 pi,.string name,.bool dir,.slice dA dots.length dc,.int .i64 at_,.int .i64 ar,.int .i64 ai,.int .i64 et,.int .i64 er,.int .i64 ei,.string text,.slice eA elems.length ec]] w fun e w'=>e= .returned (.bool true)∧Below w.heap.size w w'):=hid (fun w=>(bare_any (⟨1,⟨⟨nt,nr⟩,ni⟩,⟨⟨pt,pr⟩,pi⟩,name,dir,dots,⟨⟨at_,ar⟩,ai⟩,⟨⟨et,er⟩,ei⟩,text,elems⟩:Gop) ⟨dA,dc,eA,ec⟩ w).mono (by rintro e w' ⟨rfl,hB⟩;exact⟨by rw[h],hB⟩))
 clear h
 have HC:=hid hC
 clear hC
 go_enter Tryz.func94,Tryz.ntmps94
 go_upto_region 3 with(first
  |(go_at_call 149;refine(HP.out _).mono ?_;rintro e w1 ⟨rfl,hB1⟩)
  |(refine load_last rfl _ _ rfl _ _ _ _ rfl ?_ Tryz.underlying125 rfl ?_ ?_;(focus(simp;done));kernel_rfl))
 have hA1:w1.heap[w.heap.size]? =some (.cells #[.int .i64 1,.int .i64 nt,.int .i64 nr,.int .i64 ni,.int .i64 pt,.int .i64 pr,.int .i64 pi,.string name,.bool dir,.slice dA dots.length dc,.int .i64 at_,.int .i64 ar,.int .i64 ai,.int .i64 et,.int .i64 er,.int .i64 ei,.string text,.slice eA elems.length ec] 125 (0,0)):=(hB1.block _ (by simp)).trans (heap_alloc_new _ _)
 have hC1:Chkr w1 b g k:=(HC.out.alloc _).below hB1
 have hT1:Below w.heap.size w w1:=((Below.refl _ _).alloc (Nat.le_refl _) _).trans (hB1.mono (by simp))
 have hlt:w.heap.size<w1.heap.size:=by have:=hB1.size;simp at this;omega
 have HA1:=hid hA1
 have HC1:=hid hC1
 clear hA1 hC1
 have r0:=cw0 HA1.out
 have r1:=cw1 HA1.out
 have r2:=cw2 HA1.out
 have r3:=cw3 HA1.out
 have r4:=cw4 HA1.out
 have r5:=cw5 HA1.out
 have r6:=cw6 HA1.out
 have r7:=cw7 HA1.out
 have HAh:=hid (ahead_any b g k ⟨⟨nt,nr⟩,ni⟩)
 have HPa:=hid (ornone_any b g k ⟨⟨pt,pr⟩,pi⟩)
 have HNa:=hid (name_any name)
 go_wp2_with fail
 refine(HAh.out _ HC1.out.t HC1.out.r HC1.out.k).mono ?_
 rintro e w2 ⟨rfl,hB2⟩
 cases hh:aheadB g ⟨⟨nt,nr⟩,ni⟩ k with
 |false=>
  obtain rfl:ans=false:=by rw[HV.out,hh];rfl
  go_wp2
  go_ret
  exact⟨rfl,hT1.trans (hB2.mono (by omega))⟩
 | true=>
  have HV2:Hid (ans=(parentB g ⟨⟨pt,pr⟩,pi⟩ k && nameB name)):=hid (by rw[HV.out,hh];simp)
  have HA2:=hid ((hB2.block _ hlt).trans HA1.out)
  have HC2:=hid (HC1.out.below hB2)
  have hT2:Below w.heap.size w w2:=hT1.trans (hB2.mono (by omega))
  have hlt2:w.heap.size<w2.heap.size:=by have:=hB2.size;omega
  clear hh HV HA1 HC1 r0 r1 r2 r3 r4 r5 r6 r7 HAh hB2 hT1
  have r4:=cw4 HA2.out
  have r5:=cw5 HA2.out
  have r6:=cw6 HA2.out
  have r7:=cw7 HA2.out
  go_wp2_with fail
  refine(HPa.out _ HC2.out).mono ?_
  rintro e w3 ⟨rfl,hB3⟩
  cases hh:parentB g ⟨⟨pt,pr⟩,pi⟩ k with
  |false=>
   obtain rfl:ans=false:=by rw[HV2.out,hh];rfl
   go_wp2
   go_ret
   exact⟨rfl,hT2.trans (hB3.mono (by omega))⟩
  |true=>
   obtain rfl:ans=nameB name:=by rw[HV2.out,hh];simp
   have HA3:=hid ((hB3.block _ hlt2).trans HA2.out)
   have hT3:Below w.heap.size w w3:=hT2.trans (hB3.mono (by omega))
   have hlt3:w.heap.size<w3.heap.size:=by have:=hB3.size;omega
   clear hh HV2 HA2 HC2 r4 r5 r6 r7 HPa hB3 hT2
   have r7:=cw7 HA3.out
   go_wp2_with fail
   refine(HNa.out _ (by simp only[maxLen] at hn;omega)).mono ?_
   rintro e w4 ⟨rfl,hB4⟩
   go_wp2
   go_ret
   exact⟨rfl,hT3.trans (hB4.mono (by omega))⟩
theorem op_2 (b:Nat) (g:Gst) (k:Nat) (nt nr ni pt pr pi:Int) (name:ByteArray) (dir:Bool) (dots:List Gst) (at_ ar ai et er ei:Int) (text:ByteArray) (elems:List Gid) (dA:Option Addr) (dc:Nat) (eA:Option Addr) (ec:Nat) (S:Nat→Prop) (w:World) (hC:Chkr w b g k) (hD:StsS w S dA dots) (hl:dots.length≤maxLen) (h:bareB (⟨2,⟨⟨nt,nr⟩,ni⟩,⟨⟨pt,pr⟩,pi⟩,name,dir,dots,⟨⟨at_,ar⟩,ai⟩,⟨⟨et,er⟩,ei⟩,text,elems⟩:Gop)=true):
  Calls Tryz.prog 94 #[.pointer (some ⟨b,0,none⟩),.agg #[.int .i64 2,.int .i64 nt,.int .i64 nr,.int .i64 ni,.int .i64 pt,.int .i64 pr,.int .i64 pi,.string name,.bool dir,.slice dA dots.length dc,.int .i64 at_,.int .i64 ar,.int .i64 ai,.int .i64 et,.int .i64 er,.int .i64 ei,.string text,.slice eA elems.length ec]] w fun e w'=>e= .returned (.bool (kindB g (⟨2,⟨⟨nt,nr⟩,ni⟩,⟨⟨pt,pr⟩,pi⟩,name,dir,dots,⟨⟨at_,ar⟩,ai⟩,⟨⟨et,er⟩,ei⟩,text,elems⟩:Gop) k))∧Below w.heap.size w w':=by
 obtain⟨ans,hans⟩:∃v,v=kindB g (⟨2,⟨⟨nt,nr⟩,ni⟩,⟨⟨pt,pr⟩,pi⟩,name,dir,dots,⟨⟨at_,ar⟩,ai⟩,⟨⟨et,er⟩,ei⟩,text,elems⟩:Gop) k:=⟨_,rfl⟩
 rw[←hans]
 have HV:Hid (ans=(aheadB g ⟨⟨nt,nr⟩,ni⟩ k && dotsB g dots)):=hid (by rw[hans];simp[kindB])
 clear hans
 have HD:=hid hD
 clear hD
 have HP:Hid (∀w,Calls Tryz.prog 149 #[.agg #[.int .i64 2,.int .i64 nt,.int .i64 nr,.int .i64 ni,.int .i64 pt,.int .i64 pr,.int .i64 pi,.string name,.bool dir,.slice dA dots.length dc,.int .i64 at_,.int .i64 ar,.int .i64 ai,.int .i64 et,.int .i64 er,.int .i64 ei,.string text,.slice eA elems.length ec]] w fun e w'=>e= .returned (.bool true)∧Below w.heap.size w w'):=hid (fun w=>(bare_any (⟨2,⟨⟨nt,nr⟩,ni⟩,⟨⟨pt,pr⟩,pi⟩,name,dir,dots,⟨⟨at_,ar⟩,ai⟩,⟨⟨et,er⟩,ei⟩,text,elems⟩:Gop) ⟨dA,dc,eA,ec⟩ w).mono (by rintro e w' ⟨rfl,hB⟩;exact⟨by rw[h],hB⟩))
 clear h
 have HC:=hid hC
 clear hC
 go_enter Tryz.func94,Tryz.ntmps94
 go_upto_region 3 with(first
  |(go_at_call 149;refine(HP.out _).mono ?_;rintro e w1 ⟨rfl,hB1⟩)
  |(refine load_last rfl _ _ rfl _ _ _ _ rfl ?_ Tryz.underlying125 rfl ?_ ?_;(focus(simp;done));kernel_rfl))
 have hA1:w1.heap[w.heap.size]? =some (.cells #[.int .i64 2,.int .i64 nt,.int .i64 nr,.int .i64 ni,.int .i64 pt,.int .i64 pr,.int .i64 pi,.string name,.bool dir,.slice dA dots.length dc,.int .i64 at_,.int .i64 ar,.int .i64 ai,.int .i64 et,.int .i64 er,.int .i64 ei,.string text,.slice eA elems.length ec] 125 (0,0)):=(hB1.block _ (by simp)).trans (heap_alloc_new _ _)
 have hC1:Chkr w1 b g k:=(HC.out.alloc _).below hB1
 have hT1:Below w.heap.size w w1:=((Below.refl _ _).alloc (Nat.le_refl _) _).trans (hB1.mono (by simp))
 have hlt:w.heap.size<w1.heap.size:=by have:=hB1.size;simp at this;omega
 have HA1:=hid hA1
 have HC1:=hid hC1
 clear hA1 hC1
 have r0:=cw0 HA1.out
 have r1:=cw1 HA1.out
 have r2:=cw2 HA1.out
 have r3:=cw3 HA1.out
 have r9:=cw9 HA1.out
 have HAh:=hid (ahead_any b g k ⟨⟨nt,nr⟩,ni⟩)
 have HLi:=hid (cdots_any b g k dA dc dots S)
 go_wp2_with fail
 refine(HAh.out _ HC1.out.t HC1.out.r HC1.out.k).mono ?_
 rintro e w2 ⟨rfl,hB2⟩
 cases hh:aheadB g ⟨⟨nt,nr⟩,ni⟩ k with
 |false=>
  obtain rfl:ans=false:=by rw[HV.out,hh];rfl
  go_wp2
  go_ret
  exact⟨rfl,hT1.trans (hB2.mono (by omega))⟩
 |true=>
  obtain rfl:ans=dotsB g dots:=by rw[HV.out,hh];simp
  have HA2:=hid ((hB2.block _ hlt).trans HA1.out)
  have HC2:=hid (HC1.out.below hB2)
  have hT2:Below w.heap.size w w2:=hT1.trans (hB2.mono (by omega))
  have hlt2:w.heap.size<w2.heap.size:=by have:=hB2.size;omega
  have HD2:=hid (RowG.agr HD.out (Agr.below hT2))
  clear hh HV HA1 HC1 r0 r1 r2 r3 r9 HAh hB2 hT1
  have r9:=cw9 HA2.out
  go_wp2_with fail
  refine(HLi.out _ HC2.out (by simp only[maxLen] at hl;omega) HD2.out).mono ?_
  rintro e w3 ⟨rfl,hB3⟩
  go_wp2
  go_ret
  exact⟨rfl,hT2.trans (hB3.mono (by omega))⟩
theorem op_4 (b:Nat) (g:Gst) (k:Nat) (nt nr ni pt pr pi:Int) (name:ByteArray) (dir:Bool) (dots:List Gst) (at_ ar ai et er ei:Int) (text:ByteArray) (elems:List Gid) (dA:Option Addr) (dc:Nat) (eA:Option Addr) (ec:Nat) (S:Nat→Prop) (w:World) (hC:Chkr w b g k) (hD:IdsS w S eA elems) (hl:elems.length≤maxLen) (h:bareB (⟨4,⟨⟨nt,nr⟩,ni⟩,⟨⟨pt,pr⟩,pi⟩,name,dir,dots,⟨⟨at_,ar⟩,ai⟩,⟨⟨et,er⟩,ei⟩,text,elems⟩:Gop)=true):
  Calls Tryz.prog 94 #[.pointer (some ⟨b,0,none⟩),.agg #[.int .i64 4,.int .i64 nt,.int .i64 nr,.int .i64 ni,.int .i64 pt,.int .i64 pr,.int .i64 pi,.string name,.bool dir,.slice dA dots.length dc,.int .i64 at_,.int .i64 ar,.int .i64 ai,.int .i64 et,.int .i64 er,.int .i64 ei,.string text,.slice eA elems.length ec]] w fun e w'=>e= .returned (.bool (kindB g (⟨4,⟨⟨nt,nr⟩,ni⟩,⟨⟨pt,pr⟩,pi⟩,name,dir,dots,⟨⟨at_,ar⟩,ai⟩,⟨⟨et,er⟩,ei⟩,text,elems⟩:Gop) k))∧Below w.heap.size w w':=by
 obtain⟨ans,hans⟩:∃v,v=kindB g (⟨4,⟨⟨nt,nr⟩,ni⟩,⟨⟨pt,pr⟩,pi⟩,name,dir,dots,⟨⟨at_,ar⟩,ai⟩,⟨⟨et,er⟩,ei⟩,text,elems⟩:Gop) k:=⟨_,rfl⟩
 rw[←hans]
 have HV:Hid (ans=(aheadB g ⟨⟨nt,nr⟩,ni⟩ k && elemsB g elems k)):=hid (by rw[hans];simp[kindB])
 clear hans
 have HD:=hid hD
 clear hD
 have HP:Hid (∀w,Calls Tryz.prog 149 #[.agg #[.int .i64 4,.int .i64 nt,.int .i64 nr,.int .i64 ni,.int .i64 pt,.int .i64 pr,.int .i64 pi,.string name,.bool dir,.slice dA dots.length dc,.int .i64 at_,.int .i64 ar,.int .i64 ai,.int .i64 et,.int .i64 er,.int .i64 ei,.string text,.slice eA elems.length ec]] w fun e w'=>e= .returned (.bool true)∧Below w.heap.size w w'):=hid (fun w=>(bare_any (⟨4,⟨⟨nt,nr⟩,ni⟩,⟨⟨pt,pr⟩,pi⟩,name,dir,dots,⟨⟨at_,ar⟩,ai⟩,⟨⟨et,er⟩,ei⟩,text,elems⟩:Gop) ⟨dA,dc,eA,ec⟩ w).mono (by rintro e w' ⟨rfl,hB⟩;exact⟨by rw[h],hB⟩))
 clear h
 have HC:=hid hC
 clear hC
 go_enter Tryz.func94,Tryz.ntmps94
 go_upto_region 3 with(first
  |(go_at_call 149;refine(HP.out _).mono ?_;rintro e w1 ⟨rfl,hB1⟩)
  |(refine load_last rfl _ _ rfl _ _ _ _ rfl ?_ Tryz.underlying125 rfl ?_ ?_;(focus(simp;done));kernel_rfl))
 have hA1:w1.heap[w.heap.size]? =some (.cells #[.int .i64 4,.int .i64 nt,.int .i64 nr,.int .i64 ni,.int .i64 pt,.int .i64 pr,.int .i64 pi,.string name,.bool dir,.slice dA dots.length dc,.int .i64 at_,.int .i64 ar,.int .i64 ai,.int .i64 et,.int .i64 er,.int .i64 ei,.string text,.slice eA elems.length ec] 125 (0,0)):=(hB1.block _ (by simp)).trans (heap_alloc_new _ _)
 have hC1:Chkr w1 b g k:=(HC.out.alloc _).below hB1
 have hT1:Below w.heap.size w w1:=((Below.refl _ _).alloc (Nat.le_refl _) _).trans (hB1.mono (by simp))
 have hlt:w.heap.size<w1.heap.size:=by have:=hB1.size;simp at this;omega
 have HA1:=hid hA1
 have HC1:=hid hC1
 clear hA1 hC1
 have r0:=cw0 HA1.out
 have r1:=cw1 HA1.out
 have r2:=cw2 HA1.out
 have r3:=cw3 HA1.out
 have r17:=cw17 HA1.out
 have HAh:=hid (ahead_any b g k ⟨⟨nt,nr⟩,ni⟩)
 have HLi:=hid (celems_any b g k eA ec elems S)
 go_wp2_with fail
 refine(HAh.out _ HC1.out.t HC1.out.r HC1.out.k).mono ?_
 rintro e w2 ⟨rfl,hB2⟩
 cases hh:aheadB g ⟨⟨nt,nr⟩,ni⟩ k with
 |false=>
  obtain rfl:ans=false:=by rw[HV.out,hh];rfl
  go_wp2
  go_ret
  exact⟨rfl,hT1.trans (hB2.mono (by omega))⟩
 |true=>
  obtain rfl:ans=elemsB g elems k:=by rw[HV.out,hh];simp
  have HA2:=hid ((hB2.block _ hlt).trans HA1.out)
  have HC2:=hid (HC1.out.below hB2)
  have hT2:Below w.heap.size w w2:=hT1.trans (hB2.mono (by omega))
  have hlt2:w.heap.size<w2.heap.size:=by have:=hB2.size;omega
  have HD2:=hid (RowG.agr HD.out (Agr.below hT2))
  clear hh HV HA1 HC1 r0 r1 r2 r3 r17 HAh hB2 hT1
  have r17:=cw17 HA2.out
  go_wp2_with fail
  refine(HLi.out _ HC2.out (by simp only[maxLen] at hl;omega) HD2.out).mono ?_
  rintro e w3 ⟨rfl,hB3⟩
  go_wp2
  go_ret
  exact⟨rfl,hT2.trans (hB3.mono (by omega))⟩
theorem op_0 (b:Nat) (gt gr:Int) (k:Nat) (hk:(k:Int)<9223372036854775807) (nt nr ni pt pr pi:Int) (name:ByteArray) (dir:Bool) (dots:List Gst) (at_ ar ai et er ei:Int) (text:ByteArray) (elems:List Gid) (dA:Option Addr) (dc:Nat) (eA:Option Addr) (ec:Nat) (w:World) (hC:Chkr w b ⟨gt,gr⟩ k) (hF:w.frozen? ⟨b,7,none⟩=false) (hn:name.size≤maxLen) (h:bareB (⟨0,⟨⟨nt,nr⟩,ni⟩,⟨⟨pt,pr⟩,pi⟩,name,dir,dots,⟨⟨at_,ar⟩,ai⟩,⟨⟨et,er⟩,ei⟩,text,elems⟩:Gop)=true):
  Calls Tryz.prog 94 #[.pointer (some ⟨b,0,none⟩),.agg #[.int .i64 0,.int .i64 nt,.int .i64 nr,.int .i64 ni,.int .i64 pt,.int .i64 pr,.int .i64 pi,.string name,.bool dir,.slice dA dots.length dc,.int .i64 at_,.int .i64 ar,.int .i64 ai,.int .i64 et,.int .i64 er,.int .i64 ei,.string text,.slice eA elems.length ec]] w fun e w'=>e= .returned (.bool (kindB ⟨gt,gr⟩ (⟨0,⟨⟨nt,nr⟩,ni⟩,⟨⟨pt,pr⟩,pi⟩,name,dir,dots,⟨⟨at_,ar⟩,ai⟩,⟨⟨et,er⟩,ei⟩,text,elems⟩:Gop) k))∧OpEnd b w (kindB ⟨gt,gr⟩ (⟨0,⟨⟨nt,nr⟩,ni⟩,⟨⟨pt,pr⟩,pi⟩,name,dir,dots,⟨⟨at_,ar⟩,ai⟩,⟨⟨et,er⟩,ei⟩,text,elems⟩:Gop) k) k 1 w':=by
 obtain⟨ans,hans⟩:∃v,v=kindB ⟨gt,gr⟩ (⟨0,⟨⟨nt,nr⟩,ni⟩,⟨⟨pt,pr⟩,pi⟩,name,dir,dots,⟨⟨at_,ar⟩,ai⟩,⟨⟨et,er⟩,ei⟩,text,elems⟩:Gop) k:=⟨_,rfl⟩
 rw[←hans]
 have HV:Hid (ans=(Gid.eqb ⟨⟨nt,nr⟩,ni⟩ ⟨⟨gt,gr⟩,k⟩ && parentB ⟨gt,gr⟩ ⟨⟨pt,pr⟩,pi⟩ k && nameB name)):=hid (by rw[hans];simp[kindB])
 clear hans
 have HF:=hid hF
 clear hF
 have HP:Hid (∀w,Calls Tryz.prog 149 #[.agg #[.int .i64 0,.int .i64 nt,.int .i64 nr,.int .i64 ni,.int .i64 pt,.int .i64 pr,.int .i64 pi,.string name,.bool dir,.slice dA dots.length dc,.int .i64 at_,.int .i64 ar,.int .i64 ai,.int .i64 et,.int .i64 er,.int .i64 ei,.string text,.slice eA elems.length ec]] w fun e w'=>e= .returned (.bool true)∧Below w.heap.size w w'):=hid (fun w=>(bare_any (⟨0,⟨⟨nt,nr⟩,ni⟩,⟨⟨pt,pr⟩,pi⟩,name,dir,dots,⟨⟨at_,ar⟩,ai⟩,⟨⟨et,er⟩,ei⟩,text,elems⟩:Gop) ⟨dA,dc,eA,ec⟩ w).mono (by rintro e w' ⟨rfl,hB⟩;exact⟨by rw[h],hB⟩))
 clear h
 have HC:=hid hC
 clear hC
 go_enter Tryz.func94,Tryz.ntmps94
 go_upto_region 3 with(first
  |(go_at_call 149;refine(HP.out _).mono ?_;rintro e w1 ⟨rfl,hB1⟩)
  |(refine load_last rfl _ _ rfl _ _ _ _ rfl ?_ Tryz.underlying125 rfl ?_ ?_;(focus(simp;done));kernel_rfl))
 have hA1:w1.heap[w.heap.size]? =some (.cells #[.int .i64 0,.int .i64 nt,.int .i64 nr,.int .i64 ni,.int .i64 pt,.int .i64 pr,.int .i64 pi,.string name,.bool dir,.slice dA dots.length dc,.int .i64 at_,.int .i64 ar,.int .i64 ai,.int .i64 et,.int .i64 er,.int .i64 ei,.string text,.slice eA elems.length ec] 125 (0,0)):=(hB1.block _ (by simp)).trans (heap_alloc_new _ _)
 have hC1:Chkr w1 b ⟨gt,gr⟩ k:=(HC.out.alloc _).below hB1
 have hT1:Below w.heap.size w w1:=((Below.refl _ _).alloc (Nat.le_refl _) _).trans (hB1.mono (by simp))
 have hlt:w.heap.size<w1.heap.size:=by have:=hB1.size;simp at this;omega
 have HA1:=hid hA1
 have HC1:=hid hC1
 clear hA1 hC1
 have r0:=cw0 HA1.out
 go_upto_region 5 with(fail)
 have x1:=rg1 HA1.out
 have x2:=rg2 HA1.out
 have x3:=rg3 HA1.out
 have x4:=rg4 HA1.out
 have x5:=rg5 HA1.out
 have x6:=rg6 HA1.out
 have x7:=rg7 HA1.out
 have kt:=cell_regrown HC1.out.t
 have kr:=cell_regrown HC1.out.r
 have kk:=cell_regrown HC1.out.k
 have cO:=fun d os=>Calls.regrown_of (own_any b ⟨gt,gr⟩ k (grow (redrawn w1 d) os) (HC1.out.below (below_regrown w1 d os)))
 have cP:=fun d os=>Calls.regrown_of (ornone_any b ⟨gt,gr⟩ k ⟨⟨pt,pr⟩,pi⟩ (grow (redrawn w1 d) os) (HC1.out.below (below_regrown w1 d os)))
 have cN:=fun d os=>Calls.regrown_of (name_any name (grow (redrawn w1 d) os) (by simp only[maxLen] at hn;omega))
 simp only[idV] at cO cP
 cases hE:Gid.eqb ⟨⟨nt,nr⟩,ni⟩ ⟨⟨gt,gr⟩,k⟩ with
 |false=>
  have he:=eq_id nt nr ni gt gr k false hE
  obtain rfl:ans=false:=by rw[HV.out,hE];rfl
  clear hE
  refine rqb ?_
  repeat(any_goals(first|go_big_quiet_step (with_reducible first|exact cO _ _|exact cP _ _|exact cN _ _)|quiet_step (with_reducible first|exact cO _ _|exact cP _ _|exact cN _ _)))
  refine qz fun wq hBq=> ?_
  have hT2:Below w.heap.size w wq:=hT1.trans (hBq.mono (by omega))
  have kq:=(HC1.out.below hBq).k
  have fq:wq.frozen? ⟨b,7,none⟩=false:=by rw[hT2.frozen (p:=⟨b,7,none⟩) HC.out.lt];exact HF.out
  have hkw:IntKind.i64.wrap ((k:Int)+1)=(k:Int)+1:=IntWalk.i64_in _ (by omega)
  go_wp2
  go_ret
  exact⟨rfl,wq,_,hT2,rfl,fun _=>rfl⟩
 | true=>
  have he:=eq_id nt nr ni gt gr k true hE
  have HV2:Hid (ans=(parentB ⟨gt,gr⟩ ⟨⟨pt,pr⟩,pi⟩ k && nameB name)):=hid (by rw[HV.out,hE];rfl)
  clear hE HV
  cases hP:parentB ⟨gt,gr⟩ ⟨⟨pt,pr⟩,pi⟩ k with
  |false=>
   obtain rfl:ans=false:=by rw[HV2.out,hP];rfl
   rw[hP] at cP
   clear hP
   refine rqb ?_
   repeat(any_goals(first|go_big_quiet_step (with_reducible first|exact cO _ _|exact cP _ _|exact cN _ _)|quiet_step (with_reducible first|exact cO _ _|exact cP _ _|exact cN _ _)))
   refine qz fun wq hBq=> ?_
   have hT2:Below w.heap.size w wq:=hT1.trans (hBq.mono (by omega))
   have kq:=(HC1.out.below hBq).k
   have fq:wq.frozen? ⟨b,7,none⟩=false:=by rw[hT2.frozen (p:=⟨b,7,none⟩) HC.out.lt];exact HF.out
   have hkw:IntKind.i64.wrap ((k:Int)+1)=(k:Int)+1:=IntWalk.i64_in _ (by omega)
   go_wp2
   go_ret
   exact⟨rfl,wq,_,hT2,rfl,fun _=>rfl⟩
  |true=>
   obtain rfl:ans=nameB name:=by rw[HV2.out,hP];rfl
   rw[hP] at cP
   clear hP
   refine rqb ?_
   repeat(any_goals(first|go_big_quiet_step (with_reducible first|exact cO _ _|exact cP _ _|exact cN _ _)|quiet_step (with_reducible first|exact cO _ _|exact cP _ _|exact cN _ _)))
   refine qz fun wq hBq=> ?_
   have hT2:Below w.heap.size w wq:=hT1.trans (hBq.mono (by omega))
   have kq:=(HC1.out.below hBq).k
   have fq:wq.frozen? ⟨b,7,none⟩=false:=by rw[hT2.frozen (p:=⟨b,7,none⟩) HC.out.lt];exact HF.out
   have hkw:IntKind.i64.wrap ((k:Int)+1)=(k:Int)+1:=IntWalk.i64_in _ (by omega)
   go_wp2
   go_ret
   exact⟨rfl,wq,_,hT2,rfl,fun _=>rfl⟩
theorem op_3n (b:Nat) (gt gr:Int) (k:Nat) (hk:(k:Int)+2000<9223372036854775807) (nt nr ni pt pr pi:Int) (name:ByteArray) (dir:Bool) (dots:List Gst) (at_ ar ai et er ei:Int) (text:ByteArray) (elems:List Gid) (dA:Option Addr) (dc:Nat) (eA:Option Addr) (ec:Nat) (w:World) (hC:Chkr w b ⟨gt,gr⟩ k) (hF:w.frozen? ⟨b,7,none⟩=false) (hn:text.size<9223372036854775807) (hTb:Tabs w) (hcnt:cnt text.data.toList=none) (h:bareB (⟨3,⟨⟨nt,nr⟩,ni⟩,⟨⟨pt,pr⟩,pi⟩,name,dir,dots,⟨⟨at_,ar⟩,ai⟩,⟨⟨et,er⟩,ei⟩,text,elems⟩:Gop)=true):
  Calls Tryz.prog 94 #[.pointer (some ⟨b,0,none⟩),.agg #[.int .i64 3,.int .i64 nt,.int .i64 nr,.int .i64 ni,.int .i64 pt,.int .i64 pr,.int .i64 pi,.string name,.bool dir,.slice dA dots.length dc,.int .i64 at_,.int .i64 ar,.int .i64 ai,.int .i64 et,.int .i64 er,.int .i64 ei,.string text,.slice eA elems.length ec]] w fun e w'=>e= .returned (.bool (kindB ⟨gt,gr⟩ (⟨3,⟨⟨nt,nr⟩,ni⟩,⟨⟨pt,pr⟩,pi⟩,name,dir,dots,⟨⟨at_,ar⟩,ai⟩,⟨⟨et,er⟩,ei⟩,text,elems⟩:Gop) k))∧OpEnd b w (kindB ⟨gt,gr⟩ (⟨3,⟨⟨nt,nr⟩,ni⟩,⟨⟨pt,pr⟩,pi⟩,name,dir,dots,⟨⟨at_,ar⟩,ai⟩,⟨⟨et,er⟩,ei⟩,text,elems⟩:Gop) k) k (runeCount text) w':=by
 obtain⟨ans,hans⟩:∃v,v=kindB ⟨gt,gr⟩ (⟨3,⟨⟨nt,nr⟩,ni⟩,⟨⟨pt,pr⟩,pi⟩,name,dir,dots,⟨⟨at_,ar⟩,ai⟩,⟨⟨et,er⟩,ei⟩,text,elems⟩:Gop) k:=⟨_,rfl⟩
 rw[←hans]
 have HV:Hid (ans=(aheadB ⟨gt,gr⟩ ⟨⟨nt,nr⟩,ni⟩ k && parentB ⟨gt,gr⟩ ⟨⟨at_,ar⟩,ai⟩ k && Gid.eqb ⟨⟨et,er⟩,ei⟩ ⟨⟨gt,gr⟩,k⟩ && false)):=hid (by rw[hans];simp[kindB,textB,cnt_valid,hcnt])
 have HLe:Hid (∀w,Tabs w→Calls Tryz.prog 155 #[.string text] w fun e w'=>e= .returned (.tuple #[.int .i64 0,.int .i64 60])∧Below w.heap.size w w'):=hid (fun w h=>len_bad text w hn h hcnt)
 clear hans hcnt
 have HF:=hid hF
 have HTb:=hid hTb
 clear hF hTb
 have HP:Hid (∀w,Calls Tryz.prog 149 #[.agg #[.int .i64 3,.int .i64 nt,.int .i64 nr,.int .i64 ni,.int .i64 pt,.int .i64 pr,.int .i64 pi,.string name,.bool dir,.slice dA dots.length dc,.int .i64 at_,.int .i64 ar,.int .i64 ai,.int .i64 et,.int .i64 er,.int .i64 ei,.string text,.slice eA elems.length ec]] w fun e w'=>e= .returned (.bool true)∧Below w.heap.size w w'):=hid (fun w=>(bare_any (⟨3,⟨⟨nt,nr⟩,ni⟩,⟨⟨pt,pr⟩,pi⟩,name,dir,dots,⟨⟨at_,ar⟩,ai⟩,⟨⟨et,er⟩,ei⟩,text,elems⟩:Gop) ⟨dA,dc,eA,ec⟩ w).mono (by rintro e w' ⟨rfl,hB⟩;exact⟨by rw[h],hB⟩))
 clear h
 have HC:=hid hC
 clear hC
 go_enter Tryz.func94,Tryz.ntmps94
 go_upto_region 3 with(first
  |(go_at_call 149;refine(HP.out _).mono ?_;rintro e w1 ⟨rfl,hB1⟩)
  |(refine load_last rfl _ _ rfl _ _ _ _ rfl ?_ Tryz.underlying125 rfl ?_ ?_;(focus(simp;done));kernel_rfl))
 have hA1:w1.heap[w.heap.size]? =some (.cells #[.int .i64 3,.int .i64 nt,.int .i64 nr,.int .i64 ni,.int .i64 pt,.int .i64 pr,.int .i64 pi,.string name,.bool dir,.slice dA dots.length dc,.int .i64 at_,.int .i64 ar,.int .i64 ai,.int .i64 et,.int .i64 er,.int .i64 ei,.string text,.slice eA elems.length ec] 125 (0,0)):=(hB1.block _ (by simp)).trans (heap_alloc_new _ _)
 have hC1:Chkr w1 b ⟨gt,gr⟩ k:=(HC.out.alloc _).below hB1
 have hT1:Below w.heap.size w w1:=((Below.refl _ _).alloc (Nat.le_refl _) _).trans (hB1.mono (by simp))
 have hlt:w.heap.size<w1.heap.size:=by have:=hB1.size;simp at this;omega
 have HA1:=hid hA1
 have HC1:=hid hC1
 clear hA1 hC1 hB1
 have r0:=cw0 HA1.out
 have r16:=cw16 HA1.out
 go_upto_region 14 with(go_at_call 155;refine(HLe.out _ (HTb.out.below hT1)).mono ?_;rintro e w2 ⟨rfl,hB2⟩)
 have HA2:=hid ((hB2.block _ hlt).trans HA1.out)
 have HC2:=hid (HC1.out.below hB2)
 have hT2:Below w.heap.size w w2:=hT1.trans (hB2.mono (by omega))
 clear HA1 HC1 r0 r16 hB2 hT1
 obtain⟨W,hW⟩:∃W,W=w2:=⟨_,rfl⟩
 rw[←hW] at HA2 HC2 hT2 ⊢
 clear hW
 have x1:=rg1 HA2.out
 have x2:=rg2 HA2.out
 have x3:=rg3 HA2.out
 have x10:=rg10 HA2.out
 have x11:=rg11 HA2.out
 have x12:=rg12 HA2.out
 have x13:=rg13 HA2.out
 have x14:=rg14 HA2.out
 have x15:=rg15 HA2.out
 have kt:=cell_regrown HC2.out.t
 have kr:=cell_regrown HC2.out.r
 have kk:=cell_regrown HC2.out.k
 have cA:=fun d os=>Calls.regrown_of (ahead_any b ⟨gt,gr⟩ k ⟨⟨nt,nr⟩,ni⟩ (grow (redrawn W d) os) (HC2.out.below (below_regrown W d os)).t (HC2.out.below (below_regrown W d os)).r (HC2.out.below (below_regrown W d os)).k)
 have cO:=fun d os=>Calls.regrown_of (own_any b ⟨gt,gr⟩ k (grow (redrawn W d) os) (HC2.out.below (below_regrown W d os)))
 have cP:=fun d os=>Calls.regrown_of (ornone_any b ⟨gt,gr⟩ k ⟨⟨at_,ar⟩,ai⟩ (grow (redrawn W d) os) (HC2.out.below (below_regrown W d os)))
 simp only[idV] at cA cO cP
 cases h0:aheadB ⟨gt,gr⟩ ⟨⟨nt,nr⟩,ni⟩ k with
 |false=>
  rw[h0] at cA
  obtain rfl:ans=false:=by rw[HV.out,h0];simp
  clear h0
  refine rqb ?_
  repeat(any_goals(first|go_big_quiet_step (with_reducible first|exact cA _ _|exact cO _ _|exact cP _ _)|quiet_step (with_reducible first|exact cA _ _|exact cO _ _|exact cP _ _)))
  refine qz fun wq hBq=> ?_
  have hT3:Below w.heap.size w wq:=hT2.trans (hBq.mono (by have:=hT2.size;omega))
  have kq:=(HC2.out.below hBq).k
  have fq:wq.frozen? ⟨b,7,none⟩=false:=by rw[hT3.frozen (p:=⟨b,7,none⟩) HC.out.lt];exact HF.out
  go_wp2
  go_ret
  exact⟨rfl,wq,_,hT3,rfl,fun h=>by cases h⟩
 | true=>
  rw[h0] at cA
  have H0:=hid h0
  clear h0
  cases h1:parentB ⟨gt,gr⟩ ⟨⟨at_,ar⟩,ai⟩ k with
  |false=>
   rw[h1] at cP
   obtain rfl:ans=false:=by rw[HV.out,H0.out,h1];simp
   clear h1
   refine rqb ?_
   repeat(any_goals(first|go_big_quiet_step (with_reducible first|exact cA _ _|exact cO _ _|exact cP _ _)|quiet_step (with_reducible first|exact cA _ _|exact cO _ _|exact cP _ _)))
   refine qz fun wq hBq=> ?_
   have hT3:Below w.heap.size w wq:=hT2.trans (hBq.mono (by have:=hT2.size;omega))
   have kq:=(HC2.out.below hBq).k
   have fq:wq.frozen? ⟨b,7,none⟩=false:=by rw[hT3.frozen (p:=⟨b,7,none⟩) HC.out.lt];exact HF.out
   go_wp2
   go_ret
   exact⟨rfl,wq,_,hT3,rfl,fun h=>by cases h⟩
  | true=>
   rw[h1] at cP
   have H1:=hid h1
   clear h1
   cases h2:Gid.eqb ⟨⟨et,er⟩,ei⟩ ⟨⟨gt,gr⟩,k⟩ with
   |false=>
    have he:=eq_id et er ei gt gr k false h2
    obtain rfl:ans=false:=by rw[HV.out,H0.out,H1.out,h2];simp
    clear h2
    refine rqb ?_
    repeat(any_goals(first|go_big_quiet_step (with_reducible first|exact cA _ _|exact cO _ _|exact cP _ _)|quiet_step (with_reducible first|exact cA _ _|exact cO _ _|exact cP _ _)))
    refine qz fun wq hBq=> ?_
    have hT3:Below w.heap.size w wq:=hT2.trans (hBq.mono (by have:=hT2.size;omega))
    have kq:=(HC2.out.below hBq).k
    have fq:wq.frozen? ⟨b,7,none⟩=false:=by rw[hT3.frozen (p:=⟨b,7,none⟩) HC.out.lt];exact HF.out
    go_wp2
    go_ret
    exact⟨rfl,wq,_,hT3,rfl,fun h=>by cases h⟩
   |true=>
    have he:=eq_id et er ei gt gr k true h2
    have H2:=hid h2
    clear h2
    obtain rfl:ans=false:=by rw[HV.out,H0.out,H1.out,H2.out];simp
    refine rqb ?_
    repeat(any_goals(first|go_big_quiet_step (with_reducible first|exact cA _ _|exact cO _ _|exact cP _ _)|quiet_step (with_reducible first|exact cA _ _|exact cO _ _|exact cP _ _)))
    refine qz fun wq hBq=> ?_
    have hT3:Below w.heap.size w wq:=hT2.trans (hBq.mono (by have:=hT2.size;omega))
    have kq:=(HC2.out.below hBq).k
    have fq:wq.frozen? ⟨b,7,none⟩=false:=by rw[hT3.frozen (p:=⟨b,7,none⟩) HC.out.lt];exact HF.out
    go_wp2
    go_ret
    exact⟨rfl,wq,_,hT3,rfl,fun h=>by cases h⟩
theorem op_3s (b:Nat) (gt gr:Int) (k:Nat) (hk:(k:Int)+2000<9223372036854775807) (nt nr ni pt pr pi:Int) (name:ByteArray) (dir:Bool) (dots:List Gst) (at_ ar ai et er ei:Int) (text:ByteArray) (elems:List Gid) (dA:Option Addr) (dc:Nat) (eA:Option Addr) (ec:Nat) (w:World) (hC:Chkr w b ⟨gt,gr⟩ k) (hF:w.frozen? ⟨b,7,none⟩=false) (hn:text.size<9223372036854775807) (hTb:Tabs w) (m:Nat) (hm:(m:Int)≤9223372036854775807) (hcnt:cnt text.data.toList=some m) (h:bareB (⟨3,⟨⟨nt,nr⟩,ni⟩,⟨⟨pt,pr⟩,pi⟩,name,dir,dots,⟨⟨at_,ar⟩,ai⟩,⟨⟨et,er⟩,ei⟩,text,elems⟩:Gop)=true):
  Calls Tryz.prog 94 #[.pointer (some ⟨b,0,none⟩),.agg #[.int .i64 3,.int .i64 nt,.int .i64 nr,.int .i64 ni,.int .i64 pt,.int .i64 pr,.int .i64 pi,.string name,.bool dir,.slice dA dots.length dc,.int .i64 at_,.int .i64 ar,.int .i64 ai,.int .i64 et,.int .i64 er,.int .i64 ei,.string text,.slice eA elems.length ec]] w fun e w'=>e= .returned (.bool (kindB ⟨gt,gr⟩ (⟨3,⟨⟨nt,nr⟩,ni⟩,⟨⟨pt,pr⟩,pi⟩,name,dir,dots,⟨⟨at_,ar⟩,ai⟩,⟨⟨et,er⟩,ei⟩,text,elems⟩:Gop) k))∧OpEnd b w (kindB ⟨gt,gr⟩ (⟨3,⟨⟨nt,nr⟩,ni⟩,⟨⟨pt,pr⟩,pi⟩,name,dir,dots,⟨⟨at_,ar⟩,ai⟩,⟨⟨et,er⟩,ei⟩,text,elems⟩:Gop) k) k (runeCount text) w':=by
 obtain⟨ans,hans⟩:∃v,v=kindB ⟨gt,gr⟩ (⟨3,⟨⟨nt,nr⟩,ni⟩,⟨⟨pt,pr⟩,pi⟩,name,dir,dots,⟨⟨at_,ar⟩,ai⟩,⟨⟨et,er⟩,ei⟩,text,elems⟩:Gop) k:=⟨_,rfl⟩
 rw[←hans]
 have HV:Hid (ans=(aheadB ⟨gt,gr⟩ ⟨⟨nt,nr⟩,ni⟩ k && parentB ⟨gt,gr⟩ ⟨⟨at_,ar⟩,ai⟩ k && Gid.eqb ⟨⟨et,er⟩,ei⟩ ⟨⟨gt,gr⟩,k⟩ && (decide (1≤m) && decide (m≤2000)))):=hid (by rw[hans];simp[kindB,textB,cnt_valid,hcnt,cnt_count hcnt])
 have HLe:Hid (∀w,Tabs w→Calls Tryz.prog 155 #[.string text] w fun e w'=>e= .returned (.tuple #[.int .i64 (m:Nat),.int .i64 0])∧Below w.heap.size w w'):=hid (fun w h=>len_ok text m w hn h hcnt)
 have HCt:=hid (cnt_count hcnt)
 clear hans hcnt
 have HF:=hid hF
 have HTb:=hid hTb
 clear hF hTb
 have HP:Hid (∀w,Calls Tryz.prog 149 #[.agg #[.int .i64 3,.int .i64 nt,.int .i64 nr,.int .i64 ni,.int .i64 pt,.int .i64 pr,.int .i64 pi,.string name,.bool dir,.slice dA dots.length dc,.int .i64 at_,.int .i64 ar,.int .i64 ai,.int .i64 et,.int .i64 er,.int .i64 ei,.string text,.slice eA elems.length ec]] w fun e w'=>e= .returned (.bool true)∧Below w.heap.size w w'):=hid (fun w=>(bare_any (⟨3,⟨⟨nt,nr⟩,ni⟩,⟨⟨pt,pr⟩,pi⟩,name,dir,dots,⟨⟨at_,ar⟩,ai⟩,⟨⟨et,er⟩,ei⟩,text,elems⟩:Gop) ⟨dA,dc,eA,ec⟩ w).mono (by rintro e w' ⟨rfl,hB⟩;exact⟨by rw[h],hB⟩))
 clear h
 have HC:=hid hC
 clear hC
 go_enter Tryz.func94,Tryz.ntmps94
 go_upto_region 3 with(first
  |(go_at_call 149;refine(HP.out _).mono ?_;rintro e w1 ⟨rfl,hB1⟩)
  |(refine load_last rfl _ _ rfl _ _ _ _ rfl ?_ Tryz.underlying125 rfl ?_ ?_;(focus(simp;done));kernel_rfl))
 have hA1:w1.heap[w.heap.size]? =some (.cells #[.int .i64 3,.int .i64 nt,.int .i64 nr,.int .i64 ni,.int .i64 pt,.int .i64 pr,.int .i64 pi,.string name,.bool dir,.slice dA dots.length dc,.int .i64 at_,.int .i64 ar,.int .i64 ai,.int .i64 et,.int .i64 er,.int .i64 ei,.string text,.slice eA elems.length ec] 125 (0,0)):=(hB1.block _ (by simp)).trans (heap_alloc_new _ _)
 have hC1:Chkr w1 b ⟨gt,gr⟩ k:=(HC.out.alloc _).below hB1
 have hT1:Below w.heap.size w w1:=((Below.refl _ _).alloc (Nat.le_refl _) _).trans (hB1.mono (by simp))
 have hlt:w.heap.size<w1.heap.size:=by have:=hB1.size;simp at this;omega
 have HA1:=hid hA1
 have HC1:=hid hC1
 clear hA1 hC1 hB1
 have r0:=cw0 HA1.out
 have r16:=cw16 HA1.out
 go_upto_region 14 with(go_at_call 155;refine(HLe.out _ (HTb.out.below hT1)).mono ?_;rintro e w2 ⟨rfl,hB2⟩)
 have HA2:=hid ((hB2.block _ hlt).trans HA1.out)
 have HC2:=hid (HC1.out.below hB2)
 have hT2:Below w.heap.size w w2:=hT1.trans (hB2.mono (by omega))
 clear HA1 HC1 r0 r16 hB2 hT1
 obtain⟨W,hW⟩:∃W,W=w2:=⟨_,rfl⟩
 rw[←hW] at HA2 HC2 hT2 ⊢
 clear hW
 have x1:=rg1 HA2.out
 have x2:=rg2 HA2.out
 have x3:=rg3 HA2.out
 have x10:=rg10 HA2.out
 have x11:=rg11 HA2.out
 have x12:=rg12 HA2.out
 have x13:=rg13 HA2.out
 have x14:=rg14 HA2.out
 have x15:=rg15 HA2.out
 have kt:=cell_regrown HC2.out.t
 have kr:=cell_regrown HC2.out.r
 have kk:=cell_regrown HC2.out.k
 have cA:=fun d os=>Calls.regrown_of (ahead_any b ⟨gt,gr⟩ k ⟨⟨nt,nr⟩,ni⟩ (grow (redrawn W d) os) (HC2.out.below (below_regrown W d os)).t (HC2.out.below (below_regrown W d os)).r (HC2.out.below (below_regrown W d os)).k)
 have cO:=fun d os=>Calls.regrown_of (own_any b ⟨gt,gr⟩ k (grow (redrawn W d) os) (HC2.out.below (below_regrown W d os)))
 have cP:=fun d os=>Calls.regrown_of (ornone_any b ⟨gt,gr⟩ k ⟨⟨at_,ar⟩,ai⟩ (grow (redrawn W d) os) (HC2.out.below (below_regrown W d os)))
 simp only[idV] at cA cO cP
 cases h0:aheadB ⟨gt,gr⟩ ⟨⟨nt,nr⟩,ni⟩ k with
 |false=>
  rw[h0] at cA
  obtain rfl:ans=false:=by rw[HV.out,h0];simp
  clear h0
  refine rqb ?_
  repeat(any_goals(first|go_big_quiet_step (with_reducible first|exact cA _ _|exact cO _ _|exact cP _ _)|quiet_step (with_reducible first|exact cA _ _|exact cO _ _|exact cP _ _)))
  refine qz fun wq hBq=> ?_
  have hT3:Below w.heap.size w wq:=hT2.trans (hBq.mono (by have:=hT2.size;omega))
  have kq:=(HC2.out.below hBq).k
  have fq:wq.frozen? ⟨b,7,none⟩=false:=by rw[hT3.frozen (p:=⟨b,7,none⟩) HC.out.lt];exact HF.out
  go_wp2
  go_ret
  exact⟨rfl,wq,_,hT3,rfl,fun h=>by cases h⟩
 | true=>
  rw[h0] at cA
  have H0:=hid h0
  clear h0
  cases h1:parentB ⟨gt,gr⟩ ⟨⟨at_,ar⟩,ai⟩ k with
  |false=>
   rw[h1] at cP
   obtain rfl:ans=false:=by rw[HV.out,H0.out,h1];simp
   clear h1
   refine rqb ?_
   repeat(any_goals(first|go_big_quiet_step (with_reducible first|exact cA _ _|exact cO _ _|exact cP _ _)|quiet_step (with_reducible first|exact cA _ _|exact cO _ _|exact cP _ _)))
   refine qz fun wq hBq=> ?_
   have hT3:Below w.heap.size w wq:=hT2.trans (hBq.mono (by have:=hT2.size;omega))
   have kq:=(HC2.out.below hBq).k
   have fq:wq.frozen? ⟨b,7,none⟩=false:=by rw[hT3.frozen (p:=⟨b,7,none⟩) HC.out.lt];exact HF.out
   go_wp2
   go_ret
   exact⟨rfl,wq,_,hT3,rfl,fun h=>by cases h⟩
  | true=>
   rw[h1] at cP
   have H1:=hid h1
   clear h1
   cases h2:Gid.eqb ⟨⟨et,er⟩,ei⟩ ⟨⟨gt,gr⟩,k⟩ with
   |false=>
    have he:=eq_id et er ei gt gr k false h2
    obtain rfl:ans=false:=by rw[HV.out,H0.out,H1.out,h2];simp
    clear h2
    refine rqb ?_
    repeat(any_goals(first|go_big_quiet_step (with_reducible first|exact cA _ _|exact cO _ _|exact cP _ _)|quiet_step (with_reducible first|exact cA _ _|exact cO _ _|exact cP _ _)))
    refine qz fun wq hBq=> ?_
    have hT3:Below w.heap.size w wq:=hT2.trans (hBq.mono (by have:=hT2.size;omega))
    have kq:=(HC2.out.below hBq).k
    have fq:wq.frozen? ⟨b,7,none⟩=false:=by rw[hT3.frozen (p:=⟨b,7,none⟩) HC.out.lt];exact HF.out
    go_wp2
    go_ret
    exact⟨rfl,wq,_,hT3,rfl,fun h=>by cases h⟩
   | true=>
    have he:=eq_id et er ei gt gr k true h2
    have H2:=hid h2
    clear h2
    by_cases m1:1≤m
    rotate_left
    ·obtain rfl:m=0:=by omega
     obtain rfl:ans=false:=by rw[HV.out,H0.out,H1.out,H2.out];simp
     refine rqb ?_
     repeat(any_goals(first|go_big_quiet_step (with_reducible first|exact cA _ _|exact cO _ _|exact cP _ _)|quiet_step (with_reducible first|exact cA _ _|exact cO _ _|exact cP _ _)))
     refine qz fun wq hBq=> ?_
     have hT3:Below w.heap.size w wq:=hT2.trans (hBq.mono (by have:=hT2.size;omega))
     have kq:=(HC2.out.below hBq).k
     have fq:wq.frozen? ⟨b,7,none⟩=false:=by rw[hT3.frozen (p:=⟨b,7,none⟩) HC.out.lt];exact HF.out
     go_wp2
     go_ret
     exact⟨rfl,wq,_,hT3,rfl,fun h=>by cases h⟩
    have b1:decide (0<m)=true:=by rw[decide_eq_true_eq];omega
    have b2:(1:Int)≤(m:Int):=by omega
    by_cases m2:m≤2000
    ·have b3:(m:Int)≤2000:=by omega
     obtain rfl:ans=true:=by rw[HV.out,H0.out,H1.out,H2.out];simp[m1,m2]
     have hkw:IntKind.i64.wrap ((k:Int)+(m:Int))=(k:Int)+(m:Int):=IntWalk.i64_in _ (by omega)
     have HM:=hid m1
     have HM2:=hid m2
     clear m1 m2
     refine rqb ?_
     repeat(any_goals(first|go_big_quiet_step (with_reducible first|exact cA _ _|exact cO _ _|exact cP _ _)|quiet_step (with_reducible first|exact cA _ _|exact cO _ _|exact cP _ _)))
     refine qz fun wq hBq=> ?_
     have hT3:Below w.heap.size w wq:=hT2.trans (hBq.mono (by have:=hT2.size;omega))
     have kq:=(HC2.out.below hBq).k
     have fq:wq.frozen? ⟨b,7,none⟩=false:=by rw[hT3.frozen (p:=⟨b,7,none⟩) HC.out.lt];exact HF.out
     go_wp2
     go_ret
     exact⟨rfl,wq,_,hT3,rfl,fun _=>by rw[HCt.out]⟩
    ·have b3:¬(m:Int)≤2000:=by omega
     obtain rfl:ans=false:=by rw[HV.out,H0.out,H1.out,H2.out];simp[m2]
     have HM:=hid m1
     have HM2:=hid m2
     clear m1 m2
     refine rqb ?_
     repeat(any_goals(first|go_big_quiet_step (with_reducible first|exact cA _ _|exact cO _ _|exact cP _ _)|quiet_step (with_reducible first|exact cA _ _|exact cO _ _|exact cP _ _)))
     refine qz fun wq hBq=> ?_
     have hT3:Below w.heap.size w wq:=hT2.trans (hBq.mono (by have:=hT2.size;omega))
     have kq:=(HC2.out.below hBq).k
     have fq:wq.frozen? ⟨b,7,none⟩=false:=by rw[hT3.frozen (p:=⟨b,7,none⟩) HC.out.lt];exact HF.out
     go_wp2
     go_ret
     exact⟨rfl,wq,_,hT3,rfl,fun h=>by cases h⟩
end
section
open Go.RowKit Go.Lib Go.Sort
set_option linter.unusedVariables false
def OpFin (b:Nat) (w:World) (ans:Bool) (k c:Nat) (w':World):Prop:=(Below w.heap.size w w'∧(ans=true→c=0))∨OpEnd b w ans k c w'
theorem OpFin.below {b:Nat} {w w':World} {ans:Bool} {k c n:Nat} (h:OpFin b w ans k c w') (hb:n≤b) (hn:n≤w.heap.size):Below n w w':=by
 rcases h with⟨h,-⟩|⟨w2,v,h,rfl,-⟩
 ·exact h.mono hn
 ·exact(h.mono hn).setCell hb _
theorem OpFin.chkr {b:Nat} {w w':World} {k c:Nat} {g:Gst} (h:OpFin b w true k c w') (hC:Chkr w b g k):Chkr w' b g (k+c):=by
 rcases h with⟨h,hc⟩|⟨w2,v,h,rfl,hv⟩
 ·rw[hc rfl];exact hC.below h
 ·have h2:=hC.below h
  refine⟨(World.cell?_setCell_other _ _ _ _ (by simp)).trans h2.t,(World.cell?_setCell_other _ _ _ _ (by simp)).trans h2.r,?_⟩
  rw[World.cell?_setCell_same _ _ _ (by rw[h2.k]),hv rfl]
  simp
theorem op_any (b:Nat) (g:Gst) (k:Nat) (hk:(k:Int)+2000<9223372036854775807) (o:Gop) (x:OpX) (S:Nat→Prop) (w:World) (hC:Chkr w b g k) (hF:w.frozen? ⟨b,7,none⟩=false) (hI:OpIn w S o x) (ht:o.text.size<9223372036854775807) (hTb:Tabs w):
  Calls Tryz.prog 94 #[.pointer (some ⟨b,0,none⟩),.agg (opA o x)] w fun e w'=>e= .returned (.bool (opB g o k))∧OpFin b w (opB g o k) k (moreOf o) w':=by
 obtain⟨kind,⟨⟨nt,nr⟩,ni⟩,⟨⟨pt,pr⟩,pi⟩,name,dir,dots,⟨⟨at_,ar⟩,ai⟩,⟨⟨et,er⟩,ei⟩,text,elems⟩:=o
 obtain⟨gt,gr⟩:=g
 obtain⟨dA,dc,eA,ec⟩:=x
 have hdl:=Nat.le_trans hI.dle hI.dmax
 have hel:=Nat.le_trans hI.ele hI.emax
 have hna:=hI.name
 have hDo:=hI.dots
 have hEl:=hI.elems
 simp only at hdl hel hna hDo hEl ht
 by_cases hb:bareB ⟨kind,⟨⟨nt,nr⟩,ni⟩,⟨⟨pt,pr⟩,pi⟩,name,dir,dots,⟨⟨at_,ar⟩,ai⟩,⟨⟨et,er⟩,ei⟩,text,elems⟩=true
 rotate_left
 ·have hb2:bareB ⟨kind,⟨⟨nt,nr⟩,ni⟩,⟨⟨pt,pr⟩,pi⟩,name,dir,dots,⟨⟨at_,ar⟩,ai⟩,⟨⟨et,er⟩,ei⟩,text,elems⟩=false:=by simpa using hb
  refine(op_bare b ⟨gt,gr⟩ k kind nt nr ni pt pr pi name dir dots at_ ar ai et er ei text elems dA dc eA ec w hC hb2).mono ?_
  rintro e w' ⟨rfl,hB⟩
  have:opB ⟨gt,gr⟩ ⟨kind,⟨⟨nt,nr⟩,ni⟩,⟨⟨pt,pr⟩,pi⟩,name,dir,dots,⟨⟨at_,ar⟩,ai⟩,⟨⟨et,er⟩,ei⟩,text,elems⟩ k=false:=by unfold opB;rw[hb2];rfl
  rw[this]
  exact⟨rfl,.inl ⟨hB,fun h=>by cases h⟩⟩
 have ho:opB ⟨gt,gr⟩ ⟨kind,⟨⟨nt,nr⟩,ni⟩,⟨⟨pt,pr⟩,pi⟩,name,dir,dots,⟨⟨at_,ar⟩,ai⟩,⟨⟨et,er⟩,ei⟩,text,elems⟩ k=kindB ⟨gt,gr⟩ ⟨kind,⟨⟨nt,nr⟩,ni⟩,⟨⟨pt,pr⟩,pi⟩,name,dir,dots,⟨⟨at_,ar⟩,ai⟩,⟨⟨et,er⟩,ei⟩,text,elems⟩ k:=by unfold opB;rw[hb];rfl
 rw[ho]
 clear ho
 by_cases k0:kind=0
 ·subst k0
  exact(op_0 b gt gr k (by omega) nt nr ni pt pr pi name dir dots at_ ar ai et er ei text elems dA dc eA ec w hC hF hna hb).mono (by rintro e w' ⟨rfl,hB⟩;exact⟨rfl,.inr hB⟩)
 by_cases k3:kind=3
 ·subst k3
  cases hc:cnt text.data.toList with
  |none=>exact(op_3n b gt gr k hk nt nr ni pt pr pi name dir dots at_ ar ai et er ei text elems dA dc eA ec w hC hF ht hTb hc hb).mono (by rintro e w' ⟨rfl,hB⟩;exact⟨rfl,.inr hB⟩)
  | some m=>
   have hm:(m:Int)≤9223372036854775807:=by
    have:=cnt_count hc
    have:=Lib.runeCount_le text
    omega
   exact(op_3s b gt gr k hk nt nr ni pt pr pi name dir dots at_ ar ai et er ei text elems dA dc eA ec w hC hF ht hTb m hm hc hb).mono (by rintro e w' ⟨rfl,hB⟩;exact⟨rfl,.inr hB⟩)
 have hmo:moreOf ⟨kind,⟨⟨nt,nr⟩,ni⟩,⟨⟨pt,pr⟩,pi⟩,name,dir,dots,⟨⟨at_,ar⟩,ai⟩,⟨⟨et,er⟩,ei⟩,text,elems⟩=0:=by simp[moreOf,k0,k3]
 rw[hmo]
 clear hmo
 by_cases k1:kind=1
 ·subst k1
  exact(op_1 b ⟨gt,gr⟩ k nt nr ni pt pr pi name dir dots at_ ar ai et er ei text elems dA dc eA ec w hC hna hb).mono (by rintro e w' ⟨rfl,hB⟩;exact⟨rfl,.inl ⟨hB,fun _=>rfl⟩⟩)
 by_cases k2:kind=2
 ·subst k2
  exact(op_2 b ⟨gt,gr⟩ k nt nr ni pt pr pi name dir dots at_ ar ai et er ei text elems dA dc eA ec S w hC hDo hdl hb).mono (by rintro e w' ⟨rfl,hB⟩;exact⟨rfl,.inl ⟨hB,fun _=>rfl⟩⟩)
 by_cases k4:kind=4
 ·subst k4
  exact(op_4 b ⟨gt,gr⟩ k nt nr ni pt pr pi name dir dots at_ ar ai et er ei text elems dA dc eA ec S w hC hEl hel hb).mono (by rintro e w' ⟨rfl,hB⟩;exact⟨rfl,.inl ⟨hB,fun _=>rfl⟩⟩)
 ·have:kindB ⟨gt,gr⟩ ⟨kind,⟨⟨nt,nr⟩,ni⟩,⟨⟨pt,pr⟩,pi⟩,name,dir,dots,⟨⟨at_,ar⟩,ai⟩,⟨⟨et,er⟩,ei⟩,text,elems⟩ k=false:=by simp[kindB,k0,k1,k2,k3,k4]
  rw[this]
  exact(op_x b ⟨gt,gr⟩ k kind k0 k1 k2 k3 k4 nt nr ni pt pr pi name dir dots at_ ar ai et er ei text elems dA dc eA ec w hC hb).mono (by rintro e w' ⟨rfl,hB⟩;exact⟨rfl,.inl ⟨hB,fun _=>rfl⟩⟩)
end
section
open Go.RowKit Go.Lib Go.Sort
set_option linter.unusedVariables false
attribute [local go_sem ↓] Go.wp_at_zero Go.wp_at_succ
theorem check_head (t r n:Int) (v:List Int) (ut ur:Int) (ops:List Gop) (dA:Option Addr) (dc:Nat) (oA:Option Addr) (oc:Nat) (w:World) (hl:v.length≤dc) (hc:dc≤9223372036854775807) (hn:i63 n) (hD:VecR w dA v)
  (hh:headB ⟨⟨t,r⟩,n,v,⟨ut,ur⟩,ops⟩=false):
  Calls Tryz.prog 48 #[.agg #[.int .i64 t,.int .i64 r,.int .i64 n,.slice dA v.length dc,.int .i64 ut,.int .i64 ur,.slice oA ops.length oc]] w fun e w'=>e= .returned (.int .i64 80)∧Below w.heap.size w w':=by
 have HH:Hid (∀W,Below w.heap.size w W→Calls Tryz.prog 91 #[.agg #[.int .i64 t,.int .i64 r,.int .i64 n,.slice dA v.length dc,.int .i64 ut,.int .i64 ur,.slice oA ops.length oc]] W fun e w'=>e= .returned (.bool false)∧Below W.heap.size W w'):=
  hid (fun W hB=>(head_any ⟨⟨t,r⟩,n,v,⟨ut,ur⟩,ops⟩ dA dc oA oc W hl hc hn (hD.below hB)).mono (by rintro e w' ⟨rfl,hB⟩;exact⟨by rw[hh],hB⟩))
 clear hh hD
 have hB0:Below w.heap.size w (w.alloc (.cells #[.int .i64 t,.int .i64 r,.int .i64 n,.slice dA v.length dc,.int .i64 ut,.int .i64 ur,.slice oA ops.length oc] 45)):=(Below.refl _ _).alloc (Nat.le_refl _) _
 have HB0:=hid hB0
 clear hB0
 go_enter Tryz.func48,Tryz.ntmps48
 go_upto_region 2 with(first|(go_at_call 91;refine(HH.out _ HB0.out).mono ?_;rintro e w1 ⟨rfl,hB1⟩))
 go_wp2
 go_ret
 exact⟨rfl,HB0.out.trans (hB1.mono (by simp))⟩
theorem check_undo (t r n:Int) (v:List Int) (ut ur:Int) (ops:List Gop) (dA:Option Addr) (dc:Nat) (oA:Option Addr) (oc:Nat) (w:World) (hl:v.length≤dc) (hc:dc≤9223372036854775807) (hn:i63 n) (hD:VecR w dA v)
  (hh:headB ⟨⟨t,r⟩,n,v,⟨ut,ur⟩,ops⟩=true) (hu:Gst.eqb ⟨ut,ur⟩ ⟨0,0⟩=false) (z:Int) (hz:z=if (Gst.right ⟨ut,ur⟩ && Gst.lt ⟨ut,ur⟩ ⟨t,r⟩ && decide (ops.length=0))=true then 0 else 80):
  Calls Tryz.prog 48 #[.agg #[.int .i64 t,.int .i64 r,.int .i64 n,.slice dA v.length dc,.int .i64 ut,.int .i64 ur,.slice oA ops.length oc]] w fun e w'=>e= .returned (.int .i64 z)∧Below w.heap.size w w':=by
 have HH:Hid (∀W,Below w.heap.size w W→Calls Tryz.prog 91 #[.agg #[.int .i64 t,.int .i64 r,.int .i64 n,.slice dA v.length dc,.int .i64 ut,.int .i64 ur,.slice oA ops.length oc]] W fun e w'=>e= .returned (.bool true)∧Below W.heap.size W w'):=
  hid (fun W hB=>(head_any ⟨⟨t,r⟩,n,v,⟨ut,ur⟩,ops⟩ dA dc oA oc W hl hc hn (hD.below hB)).mono (by rintro e w' ⟨rfl,hB⟩;exact⟨by rw[hh],hB⟩))
 have HZ:=hid hz
 have hne:=ne_st ut ur 0 0 false hu
 have HRi:=hid (right_any ut ur)
 have HCm:=hid (cmp_any ut ur t r)
 clear hh hD hz hu
 have hB0:Below w.heap.size w (w.alloc (.cells #[.int .i64 t,.int .i64 r,.int .i64 n,.slice dA v.length dc,.int .i64 ut,.int .i64 ur,.slice oA ops.length oc] 45)):=(Below.refl _ _).alloc (Nat.le_refl _) _
 have HB0:=hid hB0
 clear hB0
 go_enter Tryz.func48,Tryz.ntmps48
 go_upto_region 3 with(first|(go_at_call 91;refine(HH.out _ HB0.out).mono ?_;rintro e w1 ⟨rfl,hB1⟩))
 have HA1:=hid ((hB1.block w.heap.size (by simp)).trans (heap_alloc_new _ _))
 have hT1:Below w.heap.size w w1:=HB0.out.trans (hB1.mono (by simp))
 have hlt:w.heap.size<w1.heap.size:=by have:=hB1.size;simp at this;omega
 clear hB1
 have r0:=cw0 HA1.out
 have r1:=cw1 HA1.out
 have r4:=cw4 HA1.out
 have r5:=cw5 HA1.out
 have r6:=cw6 HA1.out
 go_wp2_with fail
 refine(HRi.out _).mono ?_
 rintro e w2 ⟨rfl,hB2⟩
 cases h1:Gst.right ⟨ut,ur⟩ with
 |false=>
  obtain rfl:z=80:=by rw[HZ.out,h1];rfl
  go_wp2
  go_ret
  exact⟨rfl,hT1.trans (hB2.mono (by omega))⟩
 | true=>
  have H1:=hid h1
  have HA2:=hid ((hB2.block _ hlt).trans HA1.out)
  have hT2:Below w.heap.size w w2:=hT1.trans (hB2.mono (by omega))
  have hlt2:w.heap.size<w2.heap.size:=by have:=hB2.size;omega
  clear h1 HA1 r0 r1 r4 r5 r6 hB2 hT1 HRi
  have r0:=cw0 HA2.out
  have r1:=cw1 HA2.out
  have r4:=cw4 HA2.out
  have r5:=cw5 HA2.out
  have r6:=cw6 HA2.out
  go_wp2_with fail
  refine(HCm.out _).mono ?_
  rintro e w3 ⟨rfl,hB3⟩
  have hg:=cmpS_ge ⟨ut,ur⟩ ⟨t,r⟩
  cases h2:Gst.lt ⟨ut,ur⟩ ⟨t,r⟩ with
  |false=>
   obtain rfl:z=80:=by rw[HZ.out,H1.out,h2];rfl
   rw[h2] at hg
   clear h2
   go_wp2
   go_ret
   exact⟨rfl,hT2.trans (hB3.mono (by omega))⟩
  | true=>
   rw[h2] at hg
   have H2:=hid h2
   have HA3:=hid ((hB3.block _ hlt2).trans HA2.out)
   have hT3:Below w.heap.size w w3:=hT2.trans (hB3.mono (by omega))
   clear h2 HA2 r0 r1 r4 r5 r6 hB3 hT2 HCm
   have r6:=cw6 HA3.out
   by_cases h3:ops.length=0
   ·obtain rfl:z=0:=by rw[HZ.out,H1.out,H2.out,decide_eq_true h3];rfl
    have b1:decide (0<ops.length)=false:=by rw[decide_eq_false_iff_not];omega
    have H3:=hid h3
    clear h3
    go_wp2
    go_ret
    exact⟨rfl,hT3⟩
   ·obtain rfl:z=80:=by rw[HZ.out,H1.out,H2.out,decide_eq_false h3];rfl
    have b1:decide (0<ops.length)=true:=by rw[decide_eq_true_eq];omega
    have H3:=hid h3
    clear h3
    go_wp2
    go_ret
    exact⟨rfl,hT3⟩
end
end
end Go.Proofs.YtkhmicndehlneaaGreatDoor
