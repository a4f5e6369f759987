/- Part 21 of the walks and plain laws that this claim uses, joined. Conditions: as each theorem states. -/
import Derived.Test.YtkhmicndehlneaaGreatDoorTt
namespace Go.Proofs.YtkhmicndehlneaaGreatDoor
set_option maxRecDepth 100000
set_option maxHeartbeats 16000000
section
section
open Go.RowKit Go.Lib Go.Sort
set_option linter.unusedVariables false
set_option linter.unusedSimpArgs false
theorem vbare_0 (k nt nr ni pt pr pi:Int) (name:ByteArray) (dir:Bool) (dA:Option Addr) (dn dc:Nat) (at_ ar ai et er ei:Int) (text:ByteArray) (eA:Option Addr) (en ec:Nat) (w:World) (hvt:((decide (dn=0)) && (Gid.none ⟨⟨at_,ar⟩,ai⟩) && (Gid.none ⟨⟨et,er⟩,ei⟩) && (decide (text.data.toList=[])) && (decide (en=0)))=true):
  Calls Tryz.prog 160 #[.agg #[.int .i64 k,.int .i64 nt,.int .i64 nr,.int .i64 ni,.int .i64 pt,.int .i64 pr,.int .i64 pi,.string name,.bool dir,.slice dA dn dc,.int .i64 at_,.int .i64 ar,.int .i64 ai,.int .i64 et,.int .i64 er,.int .i64 ei,.string text,.slice eA en ec],.bool true,.bool true,.bool false,.bool false,.bool false] w fun e w'=>e= .returned (.bool ((decide (dn=0)) && (Gid.none ⟨⟨at_,ar⟩,ai⟩) && (Gid.none ⟨⟨et,er⟩,ei⟩) && (decide (text.data.toList=[])) && (decide (en=0))))∧Below w.heap.size w w':=by
 obtain⟨ans,ha⟩:∃a,a=((decide (dn=0)) && (Gid.none ⟨⟨at_,ar⟩,ai⟩) && (Gid.none ⟨⟨et,er⟩,ei⟩) && (decide (text.data.toList=[])) && (decide (en=0))):=⟨_,rfl⟩
 rw[←ha]
 have HV:=hid ha
 have HVT:=hid (show ans=true by rw[ha];exact hvt)
 clear hvt
 clear ha
 obtain⟨W,hW⟩:∃W,W=w.alloc (.cells #[.int .i64 k,.int .i64 nt,.int .i64 nr,.int .i64 ni,.int .i64 pt,.int .i64 pr,.int .i64 pi,.string name,.bool dir,.slice dA dn dc,.int .i64 at_,.int .i64 ar,.int .i64 ai,.int .i64 et,.int .i64 er,.int .i64 ei,.string text,.slice eA en ec] 125):=⟨_,rfl⟩
 have hBW:Below w.heap.size w W:=by subst hW;exact(Below.refl _ _).alloc (Nat.le_refl _) _
 have hA:W.heap[w.heap.size]? =some (.cells #[.int .i64 k,.int .i64 nt,.int .i64 nr,.int .i64 ni,.int .i64 pt,.int .i64 pr,.int .i64 pi,.string name,.bool dir,.slice dA dn dc,.int .i64 at_,.int .i64 ar,.int .i64 ai,.int .i64 et,.int .i64 er,.int .i64 ei,.string text,.slice eA en ec] 125 (0,0)):=by subst hW;exact heap_alloc_new _ _
 have HW:=hid hW
 have HA:=hid hA
 have hlt:w.heap.size<W.heap.size:=by subst hW;simp
 clear hW hA
 by_cases h_dl0:dn=0
 rotate_left
 ·have h_dl:decide (dn=0)=false:=decide_eq_false h_dl0
  obtain rfl:ans=false:=by rw[HV.out];simp only[h_dl,Bool.and_false,Bool.false_and,Bool.and_true,Bool.true_and]
  exact absurd HVT.out (by decide)
 have h_dl:decide (dn=0)=true:=decide_eq_true h_dl0
 cases h_an:Gid.none ⟨⟨at_,ar⟩,ai⟩ with
 |false=>
  obtain rfl:ans=false:=by rw[HV.out];simp only[h_dl,h_an,Bool.and_false,Bool.false_and,Bool.and_true,Bool.true_and]
  exact absurd HVT.out (by decide)
 |true=>
 cases h_en_:Gid.none ⟨⟨et,er⟩,ei⟩ with
 |false=>
  obtain rfl:ans=false:=by rw[HV.out];simp only[h_dl,h_an,h_en_,Bool.and_false,Bool.false_and,Bool.and_true,Bool.true_and]
  exact absurd HVT.out (by decide)
 |true=>
 by_cases h_tx0:text.data.toList=[]
 rotate_left
 ·have h_tx:decide (text.data.toList=[])=false:=decide_eq_false h_tx0
  obtain rfl:ans=false:=by rw[HV.out];simp only[h_dl,h_an,h_en_,h_tx,Bool.and_false,Bool.false_and,Bool.and_true,Bool.true_and]
  exact absurd HVT.out (by decide)
 have h_tx:decide (text.data.toList=[])=true:=decide_eq_true h_tx0
 by_cases h_el0:en=0
 rotate_left
 ·have h_el:decide (en=0)=false:=decide_eq_false h_el0
  obtain rfl:ans=false:=by rw[HV.out];simp only[h_dl,h_an,h_en_,h_tx,h_el,Bool.and_false,Bool.false_and,Bool.and_true,Bool.true_and]
  exact absurd HVT.out (by decide)
 have h_el:decide (en=0)=true:=decide_eq_true h_el0
 obtain rfl:ans=true:=by rw[HV.out];simp only[h_dl,h_an,h_en_,h_tx,h_el,Bool.and_false,Bool.false_and,Bool.and_true,Bool.true_and]
 have s_dl:decide (0<dn)=false:=decide_eq_false (by omega)
 obtain rfl:=bs_nil.1 h_tx0
 have s_el:((en:Int) == 0)=true:=by rw[beq_iff_eq];omega
 have s_el2:decide (en=0)=true:=decide_eq_true h_el0
 have hA_W:W.heap[w.heap.size]? =some (.cells #[.int .i64 k,.int .i64 nt,.int .i64 nr,.int .i64 ni,.int .i64 pt,.int .i64 pr,.int .i64 pi,.string name,.bool dir,.slice dA dn dc,.int .i64 at_,.int .i64 ar,.int .i64 ai,.int .i64 et,.int .i64 er,.int .i64 ei,.string ⟨#[]⟩,.slice eA en ec] 125 (0,0)):=HA.out
 have x4:=rg4 hA_W
 have x5:=rg5 hA_W
 have x6:=rg6 hA_W
 have x7:=rg7 hA_W
 have x8:=rg8 hA_W
 have x9:=rg9 hA_W
 have x10:=rg10 hA_W
 have x11:=rg11 hA_W
 have x12:=rg12 hA_W
 have x13:=rg13 hA_W
 have x14:=rg14 hA_W
 have x15:=rg15 hA_W
 have x16:=rg16 hA_W
 have x17:=rg17 hA_W
 clear hA_W
 have H_an:=hid h_an
 have H_en_:=hid h_en_
 clear h_an h_en_ h_tx h_tx0 h_dl0 h_el0 h_dl h_el
 go_enter Tryz.func160,Tryz.ntmps160
 go_upto_region 1 with(fail)
 rw[←HW.out]
 refine wp_plain_quiet_below ?_
 repeat(any_goals(first|go_big_quiet_step (fail)|quiet_step (fail)))
 refine qz fun wq hBq=> ?_
 have hB1:=hBW.trans (hBq.mono hBW.size)
 have hA1:=(hBq.block _ hlt).trans HA.out
 have HA1:=hid hA1
 clear hA1 hBq x4 x5 x6 x7 x8 x9 x10 x11 x12 x13 x14 x15 x16 x17
 obtain⟨W1,hW1⟩:∃W1,W1=wq:=⟨_,rfl⟩
 rw[←hW1] at hB1 HA1 ⊢
 clear hW1
 go_upto_region 3 with(fail)
 have hA_W1:W1.heap[w.heap.size]? =some (.cells #[.int .i64 k,.int .i64 nt,.int .i64 nr,.int .i64 ni,.int .i64 pt,.int .i64 pr,.int .i64 pi,.string name,.bool dir,.slice dA dn dc,.int .i64 at_,.int .i64 ar,.int .i64 ai,.int .i64 et,.int .i64 er,.int .i64 ei,.string ⟨#[]⟩,.slice eA en ec] 125 (0,0)):=HA1.out
 have x4:=rg4 hA_W1
 have x5:=rg5 hA_W1
 have x6:=rg6 hA_W1
 have x7:=rg7 hA_W1
 have x8:=rg8 hA_W1
 have x9:=rg9 hA_W1
 have x10:=rg10 hA_W1
 have x11:=rg11 hA_W1
 have x12:=rg12 hA_W1
 have x13:=rg13 hA_W1
 have x14:=rg14 hA_W1
 have x15:=rg15 hA_W1
 have x16:=rg16 hA_W1
 have x17:=rg17 hA_W1
 clear hA_W1
 have h_an:=H_an.out
 have h_en_:=H_en_.out
 have c_an:=fun d os=>Calls.regrown_of (refnone_any at_ ar ai (grow (redrawn W1 d) os))
 rw[h_an] at c_an
 have c_en_:=fun d os=>Calls.regrown_of (refnone_any et er ei (grow (redrawn W1 d) os))
 rw[h_en_] at c_en_
 clear h_an h_en_
 refine wp_plain_quiet_below ?_
 repeat(any_goals(first|go_big_quiet_step (with_reducible first|exact c_an _ _|exact c_en_ _ _)|quiet_step (with_reducible first|exact c_an _ _|exact c_en_ _ _)))
 refine qz fun wq hBq=> ?_
 go_wp2
 go_ret
 exact⟨rfl,hB1.trans (hBq.mono hB1.size)⟩
theorem vbare_1 (k nt nr ni pt pr pi:Int) (name:ByteArray) (dir:Bool) (dA:Option Addr) (dn dc:Nat) (at_ ar ai et er ei:Int) (text:ByteArray) (eA:Option Addr) (en ec:Nat) (w:World) (hvt:((!dir) && (decide (dn=0)) && (Gid.none ⟨⟨at_,ar⟩,ai⟩) && (Gid.none ⟨⟨et,er⟩,ei⟩) && (decide (text.data.toList=[])) && (decide (en=0)))=true):
  Calls Tryz.prog 160 #[.agg #[.int .i64 k,.int .i64 nt,.int .i64 nr,.int .i64 ni,.int .i64 pt,.int .i64 pr,.int .i64 pi,.string name,.bool dir,.slice dA dn dc,.int .i64 at_,.int .i64 ar,.int .i64 ai,.int .i64 et,.int .i64 er,.int .i64 ei,.string text,.slice eA en ec],.bool true,.bool false,.bool false,.bool false,.bool false] w fun e w'=>e= .returned (.bool ((!dir) && (decide (dn=0)) && (Gid.none ⟨⟨at_,ar⟩,ai⟩) && (Gid.none ⟨⟨et,er⟩,ei⟩) && (decide (text.data.toList=[])) && (decide (en=0))))∧Below w.heap.size w w':=by
 obtain⟨ans,ha⟩:∃a,a=((!dir) && (decide (dn=0)) && (Gid.none ⟨⟨at_,ar⟩,ai⟩) && (Gid.none ⟨⟨et,er⟩,ei⟩) && (decide (text.data.toList=[])) && (decide (en=0))):=⟨_,rfl⟩
 rw[←ha]
 have HV:=hid ha
 have HVT:=hid (show ans=true by rw[ha];exact hvt)
 clear hvt
 clear ha
 obtain⟨W,hW⟩:∃W,W=w.alloc (.cells #[.int .i64 k,.int .i64 nt,.int .i64 nr,.int .i64 ni,.int .i64 pt,.int .i64 pr,.int .i64 pi,.string name,.bool dir,.slice dA dn dc,.int .i64 at_,.int .i64 ar,.int .i64 ai,.int .i64 et,.int .i64 er,.int .i64 ei,.string text,.slice eA en ec] 125):=⟨_,rfl⟩
 have hBW:Below w.heap.size w W:=by subst hW;exact(Below.refl _ _).alloc (Nat.le_refl _) _
 have hA:W.heap[w.heap.size]? =some (.cells #[.int .i64 k,.int .i64 nt,.int .i64 nr,.int .i64 ni,.int .i64 pt,.int .i64 pr,.int .i64 pi,.string name,.bool dir,.slice dA dn dc,.int .i64 at_,.int .i64 ar,.int .i64 ai,.int .i64 et,.int .i64 er,.int .i64 ei,.string text,.slice eA en ec] 125 (0,0)):=by subst hW;exact heap_alloc_new _ _
 have HW:=hid hW
 have HA:=hid hA
 have hlt:w.heap.size<W.heap.size:=by subst hW;simp
 clear hW hA
 cases h_d:(!dir) with
 |false=>
  obtain rfl:ans=false:=by rw[HV.out];simp only[h_d,Bool.and_false,Bool.false_and,Bool.and_true,Bool.true_and]
  exact absurd HVT.out (by decide)
 |true=>
 by_cases h_dl0:dn=0
 rotate_left
 ·have h_dl:decide (dn=0)=false:=decide_eq_false h_dl0
  obtain rfl:ans=false:=by rw[HV.out];simp only[h_d,h_dl,Bool.and_false,Bool.false_and,Bool.and_true,Bool.true_and]
  exact absurd HVT.out (by decide)
 have h_dl:decide (dn=0)=true:=decide_eq_true h_dl0
 cases h_an:Gid.none ⟨⟨at_,ar⟩,ai⟩ with
 |false=>
  obtain rfl:ans=false:=by rw[HV.out];simp only[h_d,h_dl,h_an,Bool.and_false,Bool.false_and,Bool.and_true,Bool.true_and]
  exact absurd HVT.out (by decide)
 |true=>
 cases h_en_:Gid.none ⟨⟨et,er⟩,ei⟩ with
 |false=>
  obtain rfl:ans=false:=by rw[HV.out];simp only[h_d,h_dl,h_an,h_en_,Bool.and_false,Bool.false_and,Bool.and_true,Bool.true_and]
  exact absurd HVT.out (by decide)
 |true=>
 by_cases h_tx0:text.data.toList=[]
 rotate_left
 ·have h_tx:decide (text.data.toList=[])=false:=decide_eq_false h_tx0
  obtain rfl:ans=false:=by rw[HV.out];simp only[h_d,h_dl,h_an,h_en_,h_tx,Bool.and_false,Bool.false_and,Bool.and_true,Bool.true_and]
  exact absurd HVT.out (by decide)
 have h_tx:decide (text.data.toList=[])=true:=decide_eq_true h_tx0
 by_cases h_el0:en=0
 rotate_left
 ·have h_el:decide (en=0)=false:=decide_eq_false h_el0
  obtain rfl:ans=false:=by rw[HV.out];simp only[h_d,h_dl,h_an,h_en_,h_tx,h_el,Bool.and_false,Bool.false_and,Bool.and_true,Bool.true_and]
  exact absurd HVT.out (by decide)
 have h_el:decide (en=0)=true:=decide_eq_true h_el0
 obtain rfl:ans=true:=by rw[HV.out];simp only[h_d,h_dl,h_an,h_en_,h_tx,h_el,Bool.and_false,Bool.false_and,Bool.and_true,Bool.true_and]
 obtain rfl:dir=false:=by simpa using h_d
 have s_dl:decide (0<dn)=false:=decide_eq_false (by omega)
 obtain rfl:=bs_nil.1 h_tx0
 have s_el:((en:Int) == 0)=true:=by rw[beq_iff_eq];omega
 have s_el2:decide (en=0)=true:=decide_eq_true h_el0
 have hA_W:W.heap[w.heap.size]? =some (.cells #[.int .i64 k,.int .i64 nt,.int .i64 nr,.int .i64 ni,.int .i64 pt,.int .i64 pr,.int .i64 pi,.string name,.bool false,.slice dA dn dc,.int .i64 at_,.int .i64 ar,.int .i64 ai,.int .i64 et,.int .i64 er,.int .i64 ei,.string ⟨#[]⟩,.slice eA en ec] 125 (0,0)):=HA.out
 have x4:=rg4 hA_W
 have x5:=rg5 hA_W
 have x6:=rg6 hA_W
 have x7:=rg7 hA_W
 have x8:=rg8 hA_W
 have x9:=rg9 hA_W
 have x10:=rg10 hA_W
 have x11:=rg11 hA_W
 have x12:=rg12 hA_W
 have x13:=rg13 hA_W
 have x14:=rg14 hA_W
 have x15:=rg15 hA_W
 have x16:=rg16 hA_W
 have x17:=rg17 hA_W
 clear hA_W
 have H_an:=hid h_an
 have H_en_:=hid h_en_
 clear h_d h_an h_en_ h_tx h_tx0 h_dl0 h_el0 h_dl h_el
 go_enter Tryz.func160,Tryz.ntmps160
 go_upto_region 1 with(fail)
 rw[←HW.out]
 refine wp_plain_quiet_below ?_
 repeat(any_goals(first|go_big_quiet_step (fail)|quiet_step (fail)))
 refine qz fun wq hBq=> ?_
 have hB1:=hBW.trans (hBq.mono hBW.size)
 have hA1:=(hBq.block _ hlt).trans HA.out
 have HA1:=hid hA1
 clear hA1 hBq x4 x5 x6 x7 x8 x9 x10 x11 x12 x13 x14 x15 x16 x17
 obtain⟨W1,hW1⟩:∃W1,W1=wq:=⟨_,rfl⟩
 rw[←hW1] at hB1 HA1 ⊢
 clear hW1
 go_upto_region 3 with(fail)
 have hA_W1:W1.heap[w.heap.size]? =some (.cells #[.int .i64 k,.int .i64 nt,.int .i64 nr,.int .i64 ni,.int .i64 pt,.int .i64 pr,.int .i64 pi,.string name,.bool false,.slice dA dn dc,.int .i64 at_,.int .i64 ar,.int .i64 ai,.int .i64 et,.int .i64 er,.int .i64 ei,.string ⟨#[]⟩,.slice eA en ec] 125 (0,0)):=HA1.out
 have x4:=rg4 hA_W1
 have x5:=rg5 hA_W1
 have x6:=rg6 hA_W1
 have x7:=rg7 hA_W1
 have x8:=rg8 hA_W1
 have x9:=rg9 hA_W1
 have x10:=rg10 hA_W1
 have x11:=rg11 hA_W1
 have x12:=rg12 hA_W1
 have x13:=rg13 hA_W1
 have x14:=rg14 hA_W1
 have x15:=rg15 hA_W1
 have x16:=rg16 hA_W1
 have x17:=rg17 hA_W1
 clear hA_W1
 have h_an:=H_an.out
 have h_en_:=H_en_.out
 have c_an:=fun d os=>Calls.regrown_of (refnone_any at_ ar ai (grow (redrawn W1 d) os))
 rw[h_an] at c_an
 have c_en_:=fun d os=>Calls.regrown_of (refnone_any et er ei (grow (redrawn W1 d) os))
 rw[h_en_] at c_en_
 clear h_an h_en_
 refine wp_plain_quiet_below ?_
 repeat(any_goals(first|go_big_quiet_step (with_reducible first|exact c_an _ _|exact c_en_ _ _)|quiet_step (with_reducible first|exact c_an _ _|exact c_en_ _ _)))
 refine qz fun wq hBq=> ?_
 go_wp2
 go_ret
 exact⟨rfl,hB1.trans (hBq.mono hB1.size)⟩
theorem vbare_2 (k nt nr ni pt pr pi:Int) (name:ByteArray) (dir:Bool) (dA:Option Addr) (dn dc:Nat) (at_ ar ai et er ei:Int) (text:ByteArray) (eA:Option Addr) (en ec:Nat) (w:World) (hvt:((Gid.none ⟨⟨pt,pr⟩,pi⟩) && (decide (name.data.toList=[])) && (!dir) && (Gid.none ⟨⟨at_,ar⟩,ai⟩) && (Gid.none ⟨⟨et,er⟩,ei⟩) && (decide (text.data.toList=[])) && (decide (en=0)))=true):
  Calls Tryz.prog 160 #[.agg #[.int .i64 k,.int .i64 nt,.int .i64 nr,.int .i64 ni,.int .i64 pt,.int .i64 pr,.int .i64 pi,.string name,.bool dir,.slice dA dn dc,.int .i64 at_,.int .i64 ar,.int .i64 ai,.int .i64 et,.int .i64 er,.int .i64 ei,.string text,.slice eA en ec],.bool false,.bool false,.bool true,.bool false,.bool false] w fun e w'=>e= .returned (.bool ((Gid.none ⟨⟨pt,pr⟩,pi⟩) && (decide (name.data.toList=[])) && (!dir) && (Gid.none ⟨⟨at_,ar⟩,ai⟩) && (Gid.none ⟨⟨et,er⟩,ei⟩) && (decide (text.data.toList=[])) && (decide (en=0))))∧Below w.heap.size w w':=by
 obtain⟨ans,ha⟩:∃a,a=((Gid.none ⟨⟨pt,pr⟩,pi⟩) && (decide (name.data.toList=[])) && (!dir) && (Gid.none ⟨⟨at_,ar⟩,ai⟩) && (Gid.none ⟨⟨et,er⟩,ei⟩) && (decide (text.data.toList=[])) && (decide (en=0))):=⟨_,rfl⟩
 rw[←ha]
 have HV:=hid ha
 have HVT:=hid (show ans=true by rw[ha];exact hvt)
 clear hvt
 clear ha
 obtain⟨W,hW⟩:∃W,W=w.alloc (.cells #[.int .i64 k,.int .i64 nt,.int .i64 nr,.int .i64 ni,.int .i64 pt,.int .i64 pr,.int .i64 pi,.string name,.bool dir,.slice dA dn dc,.int .i64 at_,.int .i64 ar,.int .i64 ai,.int .i64 et,.int .i64 er,.int .i64 ei,.string text,.slice eA en ec] 125):=⟨_,rfl⟩
 have hBW:Below w.heap.size w W:=by subst hW;exact(Below.refl _ _).alloc (Nat.le_refl _) _
 have hA:W.heap[w.heap.size]? =some (.cells #[.int .i64 k,.int .i64 nt,.int .i64 nr,.int .i64 ni,.int .i64 pt,.int .i64 pr,.int .i64 pi,.string name,.bool dir,.slice dA dn dc,.int .i64 at_,.int .i64 ar,.int .i64 ai,.int .i64 et,.int .i64 er,.int .i64 ei,.string text,.slice eA en ec] 125 (0,0)):=by subst hW;exact heap_alloc_new _ _
 have HW:=hid hW
 have HA:=hid hA
 have hlt:w.heap.size<W.heap.size:=by subst hW;simp
 clear hW hA
 cases h_pn:Gid.none ⟨⟨pt,pr⟩,pi⟩ with
 |false=>
  obtain rfl:ans=false:=by rw[HV.out];simp only[h_pn,Bool.and_false,Bool.false_and,Bool.and_true,Bool.true_and]
  exact absurd HVT.out (by decide)
 |true=>
 by_cases h_nm0:name.data.toList=[]
 rotate_left
 ·have h_nm:decide (name.data.toList=[])=false:=decide_eq_false h_nm0
  obtain rfl:ans=false:=by rw[HV.out];simp only[h_pn,h_nm,Bool.and_false,Bool.false_and,Bool.and_true,Bool.true_and]
  exact absurd HVT.out (by decide)
 have h_nm:decide (name.data.toList=[])=true:=decide_eq_true h_nm0
 cases h_d:(!dir) with
 |false=>
  obtain rfl:ans=false:=by rw[HV.out];simp only[h_pn,h_nm,h_d,Bool.and_false,Bool.false_and,Bool.and_true,Bool.true_and]
  exact absurd HVT.out (by decide)
 |true=>
 cases h_an:Gid.none ⟨⟨at_,ar⟩,ai⟩ with
 |false=>
  obtain rfl:ans=false:=by rw[HV.out];simp only[h_pn,h_nm,h_d,h_an,Bool.and_false,Bool.false_and,Bool.and_true,Bool.true_and]
  exact absurd HVT.out (by decide)
 |true=>
 cases h_en_:Gid.none ⟨⟨et,er⟩,ei⟩ with
 |false=>
  obtain rfl:ans=false:=by rw[HV.out];simp only[h_pn,h_nm,h_d,h_an,h_en_,Bool.and_false,Bool.false_and,Bool.and_true,Bool.true_and]
  exact absurd HVT.out (by decide)
 |true=>
 by_cases h_tx0:text.data.toList=[]
 rotate_left
 ·have h_tx:decide (text.data.toList=[])=false:=decide_eq_false h_tx0
  obtain rfl:ans=false:=by rw[HV.out];simp only[h_pn,h_nm,h_d,h_an,h_en_,h_tx,Bool.and_false,Bool.false_and,Bool.and_true,Bool.true_and]
  exact absurd HVT.out (by decide)
 have h_tx:decide (text.data.toList=[])=true:=decide_eq_true h_tx0
 by_cases h_el0:en=0
 rotate_left
 ·have h_el:decide (en=0)=false:=decide_eq_false h_el0
  obtain rfl:ans=false:=by rw[HV.out];simp only[h_pn,h_nm,h_d,h_an,h_en_,h_tx,h_el,Bool.and_false,Bool.false_and,Bool.and_true,Bool.true_and]
  exact absurd HVT.out (by decide)
 have h_el:decide (en=0)=true:=decide_eq_true h_el0
 obtain rfl:ans=true:=by rw[HV.out];simp only[h_pn,h_nm,h_d,h_an,h_en_,h_tx,h_el,Bool.and_false,Bool.false_and,Bool.and_true,Bool.true_and]
 obtain rfl:=bs_nil.1 h_nm0
 obtain rfl:dir=false:=by simpa using h_d
 obtain rfl:=bs_nil.1 h_tx0
 have s_el:((en:Int) == 0)=true:=by rw[beq_iff_eq];omega
 have s_el2:decide (en=0)=true:=decide_eq_true h_el0
 have hA_W:W.heap[w.heap.size]? =some (.cells #[.int .i64 k,.int .i64 nt,.int .i64 nr,.int .i64 ni,.int .i64 pt,.int .i64 pr,.int .i64 pi,.string ⟨#[]⟩,.bool false,.slice dA dn dc,.int .i64 at_,.int .i64 ar,.int .i64 ai,.int .i64 et,.int .i64 er,.int .i64 ei,.string ⟨#[]⟩,.slice eA en ec] 125 (0,0)):=HA.out
 have x4:=rg4 hA_W
 have x5:=rg5 hA_W
 have x6:=rg6 hA_W
 have x7:=rg7 hA_W
 have x8:=rg8 hA_W
 have x9:=rg9 hA_W
 have x10:=rg10 hA_W
 have x11:=rg11 hA_W
 have x12:=rg12 hA_W
 have x13:=rg13 hA_W
 have x14:=rg14 hA_W
 have x15:=rg15 hA_W
 have x16:=rg16 hA_W
 have x17:=rg17 hA_W
 clear hA_W
 have c_pn:=fun d os=>Calls.regrown_of (refnone_any pt pr pi (grow (redrawn W d) os))
 rw[h_pn] at c_pn
 have H_an:=hid h_an
 have H_en_:=hid h_en_
 clear h_pn h_nm h_d h_an h_en_ h_tx h_nm0 h_tx0 h_el0 h_el
 go_enter Tryz.func160,Tryz.ntmps160
 go_upto_region 1 with(fail)
 rw[←HW.out]
 refine wp_plain_quiet_below ?_
 repeat(any_goals(first|go_big_quiet_step (with_reducible first|exact c_pn _ _)|quiet_step (with_reducible first|exact c_pn _ _)))
 refine qz fun wq hBq=> ?_
 have hB1:=hBW.trans (hBq.mono hBW.size)
 have hA1:=(hBq.block _ hlt).trans HA.out
 have HA1:=hid hA1
 clear hA1 hBq x4 x5 x6 x7 x8 x9 x10 x11 x12 x13 x14 x15 x16 x17 c_pn
 obtain⟨W1,hW1⟩:∃W1,W1=wq:=⟨_,rfl⟩
 rw[←hW1] at hB1 HA1 ⊢
 clear hW1
 go_upto_region 3 with(fail)
 have hA_W1:W1.heap[w.heap.size]? =some (.cells #[.int .i64 k,.int .i64 nt,.int .i64 nr,.int .i64 ni,.int .i64 pt,.int .i64 pr,.int .i64 pi,.string ⟨#[]⟩,.bool false,.slice dA dn dc,.int .i64 at_,.int .i64 ar,.int .i64 ai,.int .i64 et,.int .i64 er,.int .i64 ei,.string ⟨#[]⟩,.slice eA en ec] 125 (0,0)):=HA1.out
 have x4:=rg4 hA_W1
 have x5:=rg5 hA_W1
 have x6:=rg6 hA_W1
 have x7:=rg7 hA_W1
 have x8:=rg8 hA_W1
 have x9:=rg9 hA_W1
 have x10:=rg10 hA_W1
 have x11:=rg11 hA_W1
 have x12:=rg12 hA_W1
 have x13:=rg13 hA_W1
 have x14:=rg14 hA_W1
 have x15:=rg15 hA_W1
 have x16:=rg16 hA_W1
 have x17:=rg17 hA_W1
 clear hA_W1
 have h_an:=H_an.out
 have h_en_:=H_en_.out
 have c_an:=fun d os=>Calls.regrown_of (refnone_any at_ ar ai (grow (redrawn W1 d) os))
 rw[h_an] at c_an
 have c_en_:=fun d os=>Calls.regrown_of (refnone_any et er ei (grow (redrawn W1 d) os))
 rw[h_en_] at c_en_
 clear h_an h_en_
 refine wp_plain_quiet_below ?_
 repeat(any_goals(first|go_big_quiet_step (with_reducible first|exact c_an _ _|exact c_en_ _ _)|quiet_step (with_reducible first|exact c_an _ _|exact c_en_ _ _)))
 refine qz fun wq hBq=> ?_
 go_wp2
 go_ret
 exact⟨rfl,hB1.trans (hBq.mono hB1.size)⟩
end
section
open Go.RowKit Go.Lib Go.Sort
set_option linter.unusedVariables false
set_option linter.unusedSimpArgs false
theorem vbare_3 (k nt nr ni pt pr pi:Int) (name:ByteArray) (dir:Bool) (dA:Option Addr) (dn dc:Nat) (at_ ar ai et er ei:Int) (text:ByteArray) (eA:Option Addr) (en ec:Nat) (w:World) (hvt:((Gid.none ⟨⟨pt,pr⟩,pi⟩) && (decide (name.data.toList=[])) && (!dir) && (decide (dn=0)) && (decide (en=0)))=true):
  Calls Tryz.prog 160 #[.agg #[.int .i64 k,.int .i64 nt,.int .i64 nr,.int .i64 ni,.int .i64 pt,.int .i64 pr,.int .i64 pi,.string name,.bool dir,.slice dA dn dc,.int .i64 at_,.int .i64 ar,.int .i64 ai,.int .i64 et,.int .i64 er,.int .i64 ei,.string text,.slice eA en ec],.bool false,.bool false,.bool false,.bool true,.bool false] w fun e w'=>e= .returned (.bool ((Gid.none ⟨⟨pt,pr⟩,pi⟩) && (decide (name.data.toList=[])) && (!dir) && (decide (dn=0)) && (decide (en=0))))∧Below w.heap.size w w':=by
 obtain⟨ans,ha⟩:∃a,a=((Gid.none ⟨⟨pt,pr⟩,pi⟩) && (decide (name.data.toList=[])) && (!dir) && (decide (dn=0)) && (decide (en=0))):=⟨_,rfl⟩
 rw[←ha]
 have HV:=hid ha
 have HVT:=hid (show ans=true by rw[ha];exact hvt)
 clear hvt
 clear ha
 obtain⟨W,hW⟩:∃W,W=w.alloc (.cells #[.int .i64 k,.int .i64 nt,.int .i64 nr,.int .i64 ni,.int .i64 pt,.int .i64 pr,.int .i64 pi,.string name,.bool dir,.slice dA dn dc,.int .i64 at_,.int .i64 ar,.int .i64 ai,.int .i64 et,.int .i64 er,.int .i64 ei,.string text,.slice eA en ec] 125):=⟨_,rfl⟩
 have hBW:Below w.heap.size w W:=by subst hW;exact(Below.refl _ _).alloc (Nat.le_refl _) _
 have hA:W.heap[w.heap.size]? =some (.cells #[.int .i64 k,.int .i64 nt,.int .i64 nr,.int .i64 ni,.int .i64 pt,.int .i64 pr,.int .i64 pi,.string name,.bool dir,.slice dA dn dc,.int .i64 at_,.int .i64 ar,.int .i64 ai,.int .i64 et,.int .i64 er,.int .i64 ei,.string text,.slice eA en ec] 125 (0,0)):=by subst hW;exact heap_alloc_new _ _
 have HW:=hid hW
 have HA:=hid hA
 have hlt:w.heap.size<W.heap.size:=by subst hW;simp
 clear hW hA
 cases h_pn:Gid.none ⟨⟨pt,pr⟩,pi⟩ with
 |false=>
  obtain rfl:ans=false:=by rw[HV.out];simp only[h_pn,Bool.and_false,Bool.false_and,Bool.and_true,Bool.true_and]
  exact absurd HVT.out (by decide)
 |true=>
 by_cases h_nm0:name.data.toList=[]
 rotate_left
 ·have h_nm:decide (name.data.toList=[])=false:=decide_eq_false h_nm0
  obtain rfl:ans=false:=by rw[HV.out];simp only[h_pn,h_nm,Bool.and_false,Bool.false_and,Bool.and_true,Bool.true_and]
  exact absurd HVT.out (by decide)
 have h_nm:decide (name.data.toList=[])=true:=decide_eq_true h_nm0
 cases h_d:(!dir) with
 |false=>
  obtain rfl:ans=false:=by rw[HV.out];simp only[h_pn,h_nm,h_d,Bool.and_false,Bool.false_and,Bool.and_true,Bool.true_and]
  exact absurd HVT.out (by decide)
 |true=>
 by_cases h_dl0:dn=0
 rotate_left
 ·have h_dl:decide (dn=0)=false:=decide_eq_false h_dl0
  obtain rfl:ans=false:=by rw[HV.out];simp only[h_pn,h_nm,h_d,h_dl,Bool.and_false,Bool.false_and,Bool.and_true,Bool.true_and]
  exact absurd HVT.out (by decide)
 have h_dl:decide (dn=0)=true:=decide_eq_true h_dl0
 by_cases h_el0:en=0
 rotate_left
 ·have h_el:decide (en=0)=false:=decide_eq_false h_el0
  obtain rfl:ans=false:=by rw[HV.out];simp only[h_pn,h_nm,h_d,h_dl,h_el,Bool.and_false,Bool.false_and,Bool.and_true,Bool.true_and]
  exact absurd HVT.out (by decide)
 have h_el:decide (en=0)=true:=decide_eq_true h_el0
 obtain rfl:ans=true:=by rw[HV.out];simp only[h_pn,h_nm,h_d,h_dl,h_el,Bool.and_false,Bool.false_and,Bool.and_true,Bool.true_and]
 obtain rfl:=bs_nil.1 h_nm0
 obtain rfl:dir=false:=by simpa using h_d
 have s_dl:decide (0<dn)=false:=decide_eq_false (by omega)
 have s_el:((en:Int) == 0)=true:=by rw[beq_iff_eq];omega
 have s_el2:decide (en=0)=true:=decide_eq_true h_el0
 have hA_W:W.heap[w.heap.size]? =some (.cells #[.int .i64 k,.int .i64 nt,.int .i64 nr,.int .i64 ni,.int .i64 pt,.int .i64 pr,.int .i64 pi,.string ⟨#[]⟩,.bool false,.slice dA dn dc,.int .i64 at_,.int .i64 ar,.int .i64 ai,.int .i64 et,.int .i64 er,.int .i64 ei,.string text,.slice eA en ec] 125 (0,0)):=HA.out
 have x4:=rg4 hA_W
 have x5:=rg5 hA_W
 have x6:=rg6 hA_W
 have x7:=rg7 hA_W
 have x8:=rg8 hA_W
 have x9:=rg9 hA_W
 have x10:=rg10 hA_W
 have x11:=rg11 hA_W
 have x12:=rg12 hA_W
 have x13:=rg13 hA_W
 have x14:=rg14 hA_W
 have x15:=rg15 hA_W
 have x16:=rg16 hA_W
 have x17:=rg17 hA_W
 clear hA_W
 have c_pn:=fun d os=>Calls.regrown_of (refnone_any pt pr pi (grow (redrawn W d) os))
 rw[h_pn] at c_pn
 clear h_pn h_nm h_d h_nm0 h_dl0 h_el0 h_dl h_el
 go_enter Tryz.func160,Tryz.ntmps160
 go_upto_region 1 with(fail)
 rw[←HW.out]
 refine wp_plain_quiet_below ?_
 repeat(any_goals(first|go_big_quiet_step (with_reducible first|exact c_pn _ _)|quiet_step (with_reducible first|exact c_pn _ _)))
 refine qz fun wq hBq=> ?_
 have hB1:=hBW.trans (hBq.mono hBW.size)
 have hA1:=(hBq.block _ hlt).trans HA.out
 have HA1:=hid hA1
 clear hA1 hBq x4 x5 x6 x7 x8 x9 x10 x11 x12 x13 x14 x15 x16 x17 c_pn
 obtain⟨W1,hW1⟩:∃W1,W1=wq:=⟨_,rfl⟩
 rw[←hW1] at hB1 HA1 ⊢
 clear hW1
 go_upto_region 3 with(fail)
 have hA_W1:W1.heap[w.heap.size]? =some (.cells #[.int .i64 k,.int .i64 nt,.int .i64 nr,.int .i64 ni,.int .i64 pt,.int .i64 pr,.int .i64 pi,.string ⟨#[]⟩,.bool false,.slice dA dn dc,.int .i64 at_,.int .i64 ar,.int .i64 ai,.int .i64 et,.int .i64 er,.int .i64 ei,.string text,.slice eA en ec] 125 (0,0)):=HA1.out
 have x4:=rg4 hA_W1
 have x5:=rg5 hA_W1
 have x6:=rg6 hA_W1
 have x7:=rg7 hA_W1
 have x8:=rg8 hA_W1
 have x9:=rg9 hA_W1
 have x10:=rg10 hA_W1
 have x11:=rg11 hA_W1
 have x12:=rg12 hA_W1
 have x13:=rg13 hA_W1
 have x14:=rg14 hA_W1
 have x15:=rg15 hA_W1
 have x16:=rg16 hA_W1
 have x17:=rg17 hA_W1
 clear hA_W1
 refine wp_plain_quiet_below ?_
 repeat(any_goals(first|go_big_quiet_step (fail)|quiet_step (fail)))
 refine qz fun wq hBq=> ?_
 go_wp2
 go_ret
 exact⟨rfl,hB1.trans (hBq.mono hB1.size)⟩
theorem vbare_4 (k nt nr ni pt pr pi:Int) (name:ByteArray) (dir:Bool) (dA:Option Addr) (dn dc:Nat) (at_ ar ai et er ei:Int) (text:ByteArray) (eA:Option Addr) (en ec:Nat) (w:World) (hvt:((Gid.none ⟨⟨pt,pr⟩,pi⟩) && (decide (name.data.toList=[])) && (!dir) && (decide (dn=0)) && (Gid.none ⟨⟨at_,ar⟩,ai⟩) && (Gid.none ⟨⟨et,er⟩,ei⟩) && (decide (text.data.toList=[])))=true):
  Calls Tryz.prog 160 #[.agg #[.int .i64 k,.int .i64 nt,.int .i64 nr,.int .i64 ni,.int .i64 pt,.int .i64 pr,.int .i64 pi,.string name,.bool dir,.slice dA dn dc,.int .i64 at_,.int .i64 ar,.int .i64 ai,.int .i64 et,.int .i64 er,.int .i64 ei,.string text,.slice eA en ec],.bool false,.bool false,.bool false,.bool false,.bool true] w fun e w'=>e= .returned (.bool ((Gid.none ⟨⟨pt,pr⟩,pi⟩) && (decide (name.data.toList=[])) && (!dir) && (decide (dn=0)) && (Gid.none ⟨⟨at_,ar⟩,ai⟩) && (Gid.none ⟨⟨et,er⟩,ei⟩) && (decide (text.data.toList=[]))))∧Below w.heap.size w w':=by
 obtain⟨ans,ha⟩:∃a,a=((Gid.none ⟨⟨pt,pr⟩,pi⟩) && (decide (name.data.toList=[])) && (!dir) && (decide (dn=0)) && (Gid.none ⟨⟨at_,ar⟩,ai⟩) && (Gid.none ⟨⟨et,er⟩,ei⟩) && (decide (text.data.toList=[]))):=⟨_,rfl⟩
 rw[←ha]
 have HV:=hid ha
 have HVT:=hid (show ans=true by rw[ha];exact hvt)
 clear hvt
 clear ha
 obtain⟨W,hW⟩:∃W,W=w.alloc (.cells #[.int .i64 k,.int .i64 nt,.int .i64 nr,.int .i64 ni,.int .i64 pt,.int .i64 pr,.int .i64 pi,.string name,.bool dir,.slice dA dn dc,.int .i64 at_,.int .i64 ar,.int .i64 ai,.int .i64 et,.int .i64 er,.int .i64 ei,.string text,.slice eA en ec] 125):=⟨_,rfl⟩
 have hBW:Below w.heap.size w W:=by subst hW;exact(Below.refl _ _).alloc (Nat.le_refl _) _
 have hA:W.heap[w.heap.size]? =some (.cells #[.int .i64 k,.int .i64 nt,.int .i64 nr,.int .i64 ni,.int .i64 pt,.int .i64 pr,.int .i64 pi,.string name,.bool dir,.slice dA dn dc,.int .i64 at_,.int .i64 ar,.int .i64 ai,.int .i64 et,.int .i64 er,.int .i64 ei,.string text,.slice eA en ec] 125 (0,0)):=by subst hW;exact heap_alloc_new _ _
 have HW:=hid hW
 have HA:=hid hA
 have hlt:w.heap.size<W.heap.size:=by subst hW;simp
 clear hW hA
 cases h_pn:Gid.none ⟨⟨pt,pr⟩,pi⟩ with
 |false=>
  obtain rfl:ans=false:=by rw[HV.out];simp only[h_pn,Bool.and_false,Bool.false_and,Bool.and_true,Bool.true_and]
  exact absurd HVT.out (by decide)
 |true=>
 by_cases h_nm0:name.data.toList=[]
 rotate_left
 ·have h_nm:decide (name.data.toList=[])=false:=decide_eq_false h_nm0
  obtain rfl:ans=false:=by rw[HV.out];simp only[h_pn,h_nm,Bool.and_false,Bool.false_and,Bool.and_true,Bool.true_and]
  exact absurd HVT.out (by decide)
 have h_nm:decide (name.data.toList=[])=true:=decide_eq_true h_nm0
 cases h_d:(!dir) with
 |false=>
  obtain rfl:ans=false:=by rw[HV.out];simp only[h_pn,h_nm,h_d,Bool.and_false,Bool.false_and,Bool.and_true,Bool.true_and]
  exact absurd HVT.out (by decide)
 |true=>
 by_cases h_dl0:dn=0
 rotate_left
 ·have h_dl:decide (dn=0)=false:=decide_eq_false h_dl0
  obtain rfl:ans=false:=by rw[HV.out];simp only[h_pn,h_nm,h_d,h_dl,Bool.and_false,Bool.false_and,Bool.and_true,Bool.true_and]
  exact absurd HVT.out (by decide)
 have h_dl:decide (dn=0)=true:=decide_eq_true h_dl0
 cases h_an:Gid.none ⟨⟨at_,ar⟩,ai⟩ with
 |false=>
  obtain rfl:ans=false:=by rw[HV.out];simp only[h_pn,h_nm,h_d,h_dl,h_an,Bool.and_false,Bool.false_and,Bool.and_true,Bool.true_and]
  exact absurd HVT.out (by decide)
 |true=>
 cases h_en_:Gid.none ⟨⟨et,er⟩,ei⟩ with
 |false=>
  obtain rfl:ans=false:=by rw[HV.out];simp only[h_pn,h_nm,h_d,h_dl,h_an,h_en_,Bool.and_false,Bool.false_and,Bool.and_true,Bool.true_and]
  exact absurd HVT.out (by decide)
 |true=>
 by_cases h_tx0:text.data.toList=[]
 rotate_left
 ·have h_tx:decide (text.data.toList=[])=false:=decide_eq_false h_tx0
  obtain rfl:ans=false:=by rw[HV.out];simp only[h_pn,h_nm,h_d,h_dl,h_an,h_en_,h_tx,Bool.and_false,Bool.false_and,Bool.and_true,Bool.true_and]
  exact absurd HVT.out (by decide)
 have h_tx:decide (text.data.toList=[])=true:=decide_eq_true h_tx0
 obtain rfl:ans=true:=by rw[HV.out];simp only[h_pn,h_nm,h_d,h_dl,h_an,h_en_,h_tx,Bool.and_false,Bool.false_and,Bool.and_true,Bool.true_and]
 obtain rfl:=bs_nil.1 h_nm0
 obtain rfl:dir=false:=by simpa using h_d
 have s_dl:decide (0<dn)=false:=decide_eq_false (by omega)
 obtain rfl:=bs_nil.1 h_tx0
 have hA_W:W.heap[w.heap.size]? =some (.cells #[.int .i64 k,.int .i64 nt,.int .i64 nr,.int .i64 ni,.int .i64 pt,.int .i64 pr,.int .i64 pi,.string ⟨#[]⟩,.bool false,.slice dA dn dc,.int .i64 at_,.int .i64 ar,.int .i64 ai,.int .i64 et,.int .i64 er,.int .i64 ei,.string ⟨#[]⟩,.slice eA en ec] 125 (0,0)):=HA.out
 have x4:=rg4 hA_W
 have x5:=rg5 hA_W
 have x6:=rg6 hA_W
 have x7:=rg7 hA_W
 have x8:=rg8 hA_W
 have x9:=rg9 hA_W
 have x10:=rg10 hA_W
 have x11:=rg11 hA_W
 have x12:=rg12 hA_W
 have x13:=rg13 hA_W
 have x14:=rg14 hA_W
 have x15:=rg15 hA_W
 have x16:=rg16 hA_W
 have x17:=rg17 hA_W
 clear hA_W
 have c_pn:=fun d os=>Calls.regrown_of (refnone_any pt pr pi (grow (redrawn W d) os))
 rw[h_pn] at c_pn
 have H_an:=hid h_an
 have H_en_:=hid h_en_
 clear h_pn h_nm h_d h_an h_en_ h_tx h_nm0 h_tx0 h_dl0 h_dl
 go_enter Tryz.func160,Tryz.ntmps160
 go_upto_region 1 with(fail)
 rw[←HW.out]
 refine wp_plain_quiet_below ?_
 repeat(any_goals(first|go_big_quiet_step (with_reducible first|exact c_pn _ _)|quiet_step (with_reducible first|exact c_pn _ _)))
 refine qz fun wq hBq=> ?_
 have hB1:=hBW.trans (hBq.mono hBW.size)
 have hA1:=(hBq.block _ hlt).trans HA.out
 have HA1:=hid hA1
 clear hA1 hBq x4 x5 x6 x7 x8 x9 x10 x11 x12 x13 x14 x15 x16 x17 c_pn
 obtain⟨W1,hW1⟩:∃W1,W1=wq:=⟨_,rfl⟩
 rw[←hW1] at hB1 HA1 ⊢
 clear hW1
 go_upto_region 3 with(fail)
 have hA_W1:W1.heap[w.heap.size]? =some (.cells #[.int .i64 k,.int .i64 nt,.int .i64 nr,.int .i64 ni,.int .i64 pt,.int .i64 pr,.int .i64 pi,.string ⟨#[]⟩,.bool false,.slice dA dn dc,.int .i64 at_,.int .i64 ar,.int .i64 ai,.int .i64 et,.int .i64 er,.int .i64 ei,.string ⟨#[]⟩,.slice eA en ec] 125 (0,0)):=HA1.out
 have x4:=rg4 hA_W1
 have x5:=rg5 hA_W1
 have x6:=rg6 hA_W1
 have x7:=rg7 hA_W1
 have x8:=rg8 hA_W1
 have x9:=rg9 hA_W1
 have x10:=rg10 hA_W1
 have x11:=rg11 hA_W1
 have x12:=rg12 hA_W1
 have x13:=rg13 hA_W1
 have x14:=rg14 hA_W1
 have x15:=rg15 hA_W1
 have x16:=rg16 hA_W1
 have x17:=rg17 hA_W1
 clear hA_W1
 have h_an:=H_an.out
 have h_en_:=H_en_.out
 have c_an:=fun d os=>Calls.regrown_of (refnone_any at_ ar ai (grow (redrawn W1 d) os))
 rw[h_an] at c_an
 have c_en_:=fun d os=>Calls.regrown_of (refnone_any et er ei (grow (redrawn W1 d) os))
 rw[h_en_] at c_en_
 clear h_an h_en_
 refine wp_plain_quiet_below ?_
 repeat(any_goals(first|go_big_quiet_step (with_reducible first|exact c_an _ _|exact c_en_ _ _)|quiet_step (with_reducible first|exact c_an _ _|exact c_en_ _ _)))
 refine qz fun wq hBq=> ?_
 go_wp2
 go_ret
 exact⟨rfl,hB1.trans (hBq.mono hB1.size)⟩
end
end
end Go.Proofs.YtkhmicndehlneaaGreatDoor
