/- Part 15 of the walks and plain laws that this claim uses, joined. Conditions: as each theorem states. -/
import Derived.Test.YtkhmicndehlneaaGreatDoorYgl
import Derived.Test.YtkhmicndehlneaaGreatDoorYgm
namespace Go.Proofs.YtkhmicndehlneaaGreatDoor
set_option maxRecDepth 100000
set_option maxHeartbeats 16000000
set_option linter.unusedVariables false
section
section
open Go.RowKit Go.Lib Go.Sort
set_option linter.unusedSimpArgs false
theorem vbare_0 (k nt nr ni pt pr pi:Int) (name:ByteArray) (dir:Bool) (dA:Option Addr) (dn dc:Nat) (at_ ar ai et er ei:Int) (text:ByteArray) (eA:Option Addr) (en ec:Nat) (w:World) (hvt:((decide (dn=0)) && (Gid.none ⟨⟨at_,ar⟩,ai⟩) && (Gid.none ⟨⟨et,er⟩,ei⟩) && (decide (text.data.toList=[])) && (decide (en=0)))=true):
  Calls Tryz.prog 160 #[.agg #[k,nt,nr,ni,pt,pr,pi,name,dir,.slice dA dn dc,at_,ar,ai,et,er,ei,text,.slice eA en ec],true,true,false,false,false] w λe w'=>e= .returned (.bool ((decide (dn=0)) && (Gid.none ⟨⟨at_,ar⟩,ai⟩) && (Gid.none ⟨⟨et,er⟩,ei⟩) && (decide (text.data.toList=[])) && (decide (en=0))))∧Below w.heap.size w w':=by
 obtain⟨ans,ha⟩:∃a,a=((decide (dn=0)) && (Gid.none ⟨⟨at_,ar⟩,ai⟩) && (Gid.none ⟨⟨et,er⟩,ei⟩) && (decide (text.data.toList=[])) && (decide (en=0))):=⟨_,rfl⟩;rw[<-ha];have HV:=hid ha;have HVT:=hid (show ans=true by rw[ha];exact hvt);clear hvt;clear ha;obtain⟨W,hW⟩:∃W,W=w.alloc (.cells #[k,nt,nr,ni,pt,pr,pi,name,dir,.slice dA dn dc,at_,ar,ai,et,er,ei,text,.slice eA en ec] 125):=⟨_,rfl⟩;have hBW:Below w.heap.size w W:=by subst hW;exact(Below.refl _ _).alloc (Nat.le_refl _) _
 have hA:W.heap[w.heap.size]? =some (.cells #[k,nt,nr,ni,pt,pr,pi,name,dir,.slice dA dn dc,at_,ar,ai,et,er,ei,text,.slice eA en ec] 125 (0,0)):=by subst hW;exact heap_alloc_new _ _
 have HW:=hid hW;have HA:=hid hA;have hlt:w.heap.size<W.heap.size:=by subst hW;simp
 clear hW hA;by_cases h_dl0:dn=0
 rotate_left
 ·have h_dl:decide (dn=0)=false:=decide_eq_false h_dl0;obtain rfl:ans=false:=by rw[HV.out];simp only[h_dl,Bool.and_false,Bool.false_and,Bool.and_true,Bool.true_and]
  exact absurd HVT.out (by decide)
 have h_dl:decide (dn=0)=true:=decide_eq_true h_dl0;cases h_an:Gid.none ⟨⟨at_,ar⟩,ai⟩ with
 |false=>
  obtain rfl:ans=false:=by rw[HV.out];simp only[h_dl,h_an,Bool.and_false,Bool.false_and,Bool.and_true,Bool.true_and]
  exact absurd HVT.out (by decide)
 |true=>
 cases h_en_:Gid.none ⟨⟨et,er⟩,ei⟩ with
 |false=>
  obtain rfl:ans=false:=by rw[HV.out];simp only[h_dl,h_an,h_en_,Bool.and_false,Bool.false_and,Bool.and_true,Bool.true_and]
  exact absurd HVT.out (by decide)
 |true=>
 by_cases h_tx0:text.data.toList=[]
 rotate_left
 ·have h_tx:decide (text.data.toList=[])=false:=decide_eq_false h_tx0;obtain rfl:ans=false:=by rw[HV.out];simp only[h_dl,h_an,h_en_,h_tx,Bool.and_false,Bool.false_and,Bool.and_true,Bool.true_and]
  exact absurd HVT.out (by decide)
 have h_tx:decide (text.data.toList=[])=true:=decide_eq_true h_tx0;by_cases h_el0:en=0
 rotate_left
 ·have h_el:decide (en=0)=false:=decide_eq_false h_el0;obtain rfl:ans=false:=by rw[HV.out];simp only[h_dl,h_an,h_en_,h_tx,h_el,Bool.and_false,Bool.false_and,Bool.and_true,Bool.true_and]
  exact absurd HVT.out (by decide)
 have h_el:decide (en=0)=true:=decide_eq_true h_el0;obtain rfl:ans=true:=by rw[HV.out];simp only[h_dl,h_an,h_en_,h_tx,h_el,Bool.and_false,Bool.false_and,Bool.and_true,Bool.true_and]
 have s_dl:decide (0<dn)=false:=decide_eq_false (by omega);obtain rfl:=bs_nil.1 h_tx0;have s_el:((en:Int) == 0)=true:=by rw[beq_iff_eq];omega
 have s_el2:decide (en=0)=true:=decide_eq_true h_el0;have hA_W:W.heap[w.heap.size]? =some (.cells #[k,nt,nr,ni,pt,pr,pi,name,dir,.slice dA dn dc,at_,ar,ai,et,er,ei,.string ⟨#[]⟩,.slice eA en ec] 125 (0,0)):=HA.out;have x4:=rg4 hA_W;have x5:=rg5 hA_W;have x6:=rg6 hA_W;have x7:=rg7 hA_W;have x8:=rg8 hA_W;have x9:=rg9 hA_W;have x10:=rg10 hA_W;have x11:=rg11 hA_W;have x12:=rg12 hA_W;have x13:=rg13 hA_W;have x14:=rg14 hA_W;have x15:=rg15 hA_W;have x16:=rg16 hA_W;have x17:=rg17 hA_W;clear hA_W;have H_an:=hid h_an;have H_en_:=hid h_en_;clear h_an h_en_ h_tx h_tx0 h_dl0 h_el0 h_dl h_el;go_enter Tryz.func160,Tryz.ntmps160;go_upto_region 1 with(fail);rw[<-HW.out];refine wp_plain_quiet_below ?_
 repeat(any_goals(first|go_big_quiet_step (fail)|quiet_step (fail)))
 refine qz λwq hBq=> ?_;have hB1:=hBW.trans (hBq.mono hBW.size);have hA1:=(hBq.block _ hlt).trans HA.out;have HA1:=hid hA1;clear hA1 hBq x4 x5 x6 x7 x8 x9 x10 x11 x12 x13 x14 x15 x16 x17;obtain⟨W1,hW1⟩:∃W1,W1=wq:=⟨_,rfl⟩;rw[<-hW1] at hB1 HA1 ⊢;clear hW1;go_upto_region 3 with(fail);have hA_W1:W1.heap[w.heap.size]? =some (.cells #[k,nt,nr,ni,pt,pr,pi,name,dir,.slice dA dn dc,at_,ar,ai,et,er,ei,.string ⟨#[]⟩,.slice eA en ec] 125 (0,0)):=HA1.out;have x4:=rg4 hA_W1;have x5:=rg5 hA_W1;have x6:=rg6 hA_W1;have x7:=rg7 hA_W1;have x8:=rg8 hA_W1;have x9:=rg9 hA_W1;have x10:=rg10 hA_W1;have x11:=rg11 hA_W1;have x12:=rg12 hA_W1;have x13:=rg13 hA_W1;have x14:=rg14 hA_W1;have x15:=rg15 hA_W1;have x16:=rg16 hA_W1;have x17:=rg17 hA_W1;clear hA_W1;have h_an:=H_an.out;have h_en_:=H_en_.out;have c_an:=λd os=>Calls.regrown_of (refnone_any at_ ar ai (grow (redrawn W1 d) os));rw[h_an] at c_an;have c_en_:=λd os=>Calls.regrown_of (refnone_any et er ei (grow (redrawn W1 d) os));rw[h_en_] at c_en_;clear h_an h_en_;refine wp_plain_quiet_below ?_
 repeat(any_goals(first|go_big_quiet_step (with_reducible first|exact c_an _ _|exact c_en_ _ _)|quiet_step (with_reducible first|exact c_an _ _|exact c_en_ _ _)))
 refine qz λwq hBq=> ?_;go_wp2;go_ret;exact⟨rfl,hB1.trans (hBq.mono hB1.size)⟩
theorem vbare_1 (k nt nr ni pt pr pi:Int) (name:ByteArray) (dir:Bool) (dA:Option Addr) (dn dc:Nat) (at_ ar ai et er ei:Int) (text:ByteArray) (eA:Option Addr) (en ec:Nat) (w:World) (hvt:((!dir) && (decide (dn=0)) && (Gid.none ⟨⟨at_,ar⟩,ai⟩) && (Gid.none ⟨⟨et,er⟩,ei⟩) && (decide (text.data.toList=[])) && (decide (en=0)))=true):
  Calls Tryz.prog 160 #[.agg #[k,nt,nr,ni,pt,pr,pi,name,dir,.slice dA dn dc,at_,ar,ai,et,er,ei,text,.slice eA en ec],true,false,false,false,false] w λe w'=>e= .returned (.bool ((!dir) && (decide (dn=0)) && (Gid.none ⟨⟨at_,ar⟩,ai⟩) && (Gid.none ⟨⟨et,er⟩,ei⟩) && (decide (text.data.toList=[])) && (decide (en=0))))∧Below w.heap.size w w':=by
 obtain⟨ans,ha⟩:∃a,a=((!dir) && (decide (dn=0)) && (Gid.none ⟨⟨at_,ar⟩,ai⟩) && (Gid.none ⟨⟨et,er⟩,ei⟩) && (decide (text.data.toList=[])) && (decide (en=0))):=⟨_,rfl⟩;rw[<-ha];have HV:=hid ha;have HVT:=hid (show ans=true by rw[ha];exact hvt);clear hvt;clear ha;obtain⟨W,hW⟩:∃W,W=w.alloc (.cells #[k,nt,nr,ni,pt,pr,pi,name,dir,.slice dA dn dc,at_,ar,ai,et,er,ei,text,.slice eA en ec] 125):=⟨_,rfl⟩;have hBW:Below w.heap.size w W:=by subst hW;exact(Below.refl _ _).alloc (Nat.le_refl _) _
 have hA:W.heap[w.heap.size]? =some (.cells #[k,nt,nr,ni,pt,pr,pi,name,dir,.slice dA dn dc,at_,ar,ai,et,er,ei,text,.slice eA en ec] 125 (0,0)):=by subst hW;exact heap_alloc_new _ _
 have HW:=hid hW;have HA:=hid hA;have hlt:w.heap.size<W.heap.size:=by subst hW;simp
 clear hW hA;cases h_d:(!dir) with
 |false=>
  obtain rfl:ans=false:=by rw[HV.out];simp only[h_d,Bool.and_false,Bool.false_and,Bool.and_true,Bool.true_and]
  exact absurd HVT.out (by decide)
 |true=>
 by_cases h_dl0:dn=0
 rotate_left
 ·have h_dl:decide (dn=0)=false:=decide_eq_false h_dl0;obtain rfl:ans=false:=by rw[HV.out];simp only[h_d,h_dl,Bool.and_false,Bool.false_and,Bool.and_true,Bool.true_and]
  exact absurd HVT.out (by decide)
 have h_dl:decide (dn=0)=true:=decide_eq_true h_dl0;cases h_an:Gid.none ⟨⟨at_,ar⟩,ai⟩ with
 |false=>
  obtain rfl:ans=false:=by rw[HV.out];simp only[h_d,h_dl,h_an,Bool.and_false,Bool.false_and,Bool.and_true,Bool.true_and]
  exact absurd HVT.out (by decide)
 |true=>
 cases h_en_:Gid.none ⟨⟨et,er⟩,ei⟩ with
 |false=>
  obtain rfl:ans=false:=by rw[HV.out];simp only[h_d,h_dl,h_an,h_en_,Bool.and_false,Bool.false_and,Bool.and_true,Bool.true_and]
  exact absurd HVT.out (by decide)
 |true=>
 by_cases h_tx0:text.data.toList=[]
 rotate_left
 ·have h_tx:decide (text.data.toList=[])=false:=decide_eq_false h_tx0;obtain rfl:ans=false:=by rw[HV.out];simp only[h_d,h_dl,h_an,h_en_,h_tx,Bool.and_false,Bool.false_and,Bool.and_true,Bool.true_and]
  exact absurd HVT.out (by decide)
 have h_tx:decide (text.data.toList=[])=true:=decide_eq_true h_tx0;by_cases h_el0:en=0
 rotate_left
 ·have h_el:decide (en=0)=false:=decide_eq_false h_el0;obtain rfl:ans=false:=by rw[HV.out];simp only[h_d,h_dl,h_an,h_en_,h_tx,h_el,Bool.and_false,Bool.false_and,Bool.and_true,Bool.true_and]
  exact absurd HVT.out (by decide)
 have h_el:decide (en=0)=true:=decide_eq_true h_el0;obtain rfl:ans=true:=by rw[HV.out];simp only[h_d,h_dl,h_an,h_en_,h_tx,h_el,Bool.and_false,Bool.false_and,Bool.and_true,Bool.true_and]
 obtain rfl:dir=false:=by simpa using h_d
 have s_dl:decide (0<dn)=false:=decide_eq_false (by omega);obtain rfl:=bs_nil.1 h_tx0;have s_el:((en:Int) == 0)=true:=by rw[beq_iff_eq];omega
 have s_el2:decide (en=0)=true:=decide_eq_true h_el0;have hA_W:W.heap[w.heap.size]? =some (.cells #[k,nt,nr,ni,pt,pr,pi,name,false,.slice dA dn dc,at_,ar,ai,et,er,ei,.string ⟨#[]⟩,.slice eA en ec] 125 (0,0)):=HA.out;have x4:=rg4 hA_W;have x5:=rg5 hA_W;have x6:=rg6 hA_W;have x7:=rg7 hA_W;have x8:=rg8 hA_W;have x9:=rg9 hA_W;have x10:=rg10 hA_W;have x11:=rg11 hA_W;have x12:=rg12 hA_W;have x13:=rg13 hA_W;have x14:=rg14 hA_W;have x15:=rg15 hA_W;have x16:=rg16 hA_W;have x17:=rg17 hA_W;clear hA_W;have H_an:=hid h_an;have H_en_:=hid h_en_;clear h_d h_an h_en_ h_tx h_tx0 h_dl0 h_el0 h_dl h_el;go_enter Tryz.func160,Tryz.ntmps160;go_upto_region 1 with(fail);rw[<-HW.out];refine wp_plain_quiet_below ?_
 repeat(any_goals(first|go_big_quiet_step (fail)|quiet_step (fail)))
 refine qz λwq hBq=> ?_;have hB1:=hBW.trans (hBq.mono hBW.size);have hA1:=(hBq.block _ hlt).trans HA.out;have HA1:=hid hA1;clear hA1 hBq x4 x5 x6 x7 x8 x9 x10 x11 x12 x13 x14 x15 x16 x17;obtain⟨W1,hW1⟩:∃W1,W1=wq:=⟨_,rfl⟩;rw[<-hW1] at hB1 HA1 ⊢;clear hW1;go_upto_region 3 with(fail);have hA_W1:W1.heap[w.heap.size]? =some (.cells #[k,nt,nr,ni,pt,pr,pi,name,false,.slice dA dn dc,at_,ar,ai,et,er,ei,.string ⟨#[]⟩,.slice eA en ec] 125 (0,0)):=HA1.out;have x4:=rg4 hA_W1;have x5:=rg5 hA_W1;have x6:=rg6 hA_W1;have x7:=rg7 hA_W1;have x8:=rg8 hA_W1;have x9:=rg9 hA_W1;have x10:=rg10 hA_W1;have x11:=rg11 hA_W1;have x12:=rg12 hA_W1;have x13:=rg13 hA_W1;have x14:=rg14 hA_W1;have x15:=rg15 hA_W1;have x16:=rg16 hA_W1;have x17:=rg17 hA_W1;clear hA_W1;have h_an:=H_an.out;have h_en_:=H_en_.out;have c_an:=λd os=>Calls.regrown_of (refnone_any at_ ar ai (grow (redrawn W1 d) os));rw[h_an] at c_an;have c_en_:=λd os=>Calls.regrown_of (refnone_any et er ei (grow (redrawn W1 d) os));rw[h_en_] at c_en_;clear h_an h_en_;refine wp_plain_quiet_below ?_
 repeat(any_goals(first|go_big_quiet_step (with_reducible first|exact c_an _ _|exact c_en_ _ _)|quiet_step (with_reducible first|exact c_an _ _|exact c_en_ _ _)))
 refine qz λwq hBq=> ?_;go_wp2;go_ret;exact⟨rfl,hB1.trans (hBq.mono hB1.size)⟩
theorem vbare_2 (k nt nr ni pt pr pi:Int) (name:ByteArray) (dir:Bool) (dA:Option Addr) (dn dc:Nat) (at_ ar ai et er ei:Int) (text:ByteArray) (eA:Option Addr) (en ec:Nat) (w:World) (hvt:((Gid.none ⟨⟨pt,pr⟩,pi⟩) && (decide (name.data.toList=[])) && (!dir) && (Gid.none ⟨⟨at_,ar⟩,ai⟩) && (Gid.none ⟨⟨et,er⟩,ei⟩) && (decide (text.data.toList=[])) && (decide (en=0)))=true):
  Calls Tryz.prog 160 #[.agg #[k,nt,nr,ni,pt,pr,pi,name,dir,.slice dA dn dc,at_,ar,ai,et,er,ei,text,.slice eA en ec],false,false,true,false,false] w λe w'=>e= .returned (.bool ((Gid.none ⟨⟨pt,pr⟩,pi⟩) && (decide (name.data.toList=[])) && (!dir) && (Gid.none ⟨⟨at_,ar⟩,ai⟩) && (Gid.none ⟨⟨et,er⟩,ei⟩) && (decide (text.data.toList=[])) && (decide (en=0))))∧Below w.heap.size w w':=by
 obtain⟨ans,ha⟩:∃a,a=((Gid.none ⟨⟨pt,pr⟩,pi⟩) && (decide (name.data.toList=[])) && (!dir) && (Gid.none ⟨⟨at_,ar⟩,ai⟩) && (Gid.none ⟨⟨et,er⟩,ei⟩) && (decide (text.data.toList=[])) && (decide (en=0))):=⟨_,rfl⟩;rw[<-ha];have HV:=hid ha;have HVT:=hid (show ans=true by rw[ha];exact hvt);clear hvt;clear ha;obtain⟨W,hW⟩:∃W,W=w.alloc (.cells #[k,nt,nr,ni,pt,pr,pi,name,dir,.slice dA dn dc,at_,ar,ai,et,er,ei,text,.slice eA en ec] 125):=⟨_,rfl⟩;have hBW:Below w.heap.size w W:=by subst hW;exact(Below.refl _ _).alloc (Nat.le_refl _) _
 have hA:W.heap[w.heap.size]? =some (.cells #[k,nt,nr,ni,pt,pr,pi,name,dir,.slice dA dn dc,at_,ar,ai,et,er,ei,text,.slice eA en ec] 125 (0,0)):=by subst hW;exact heap_alloc_new _ _
 have HW:=hid hW;have HA:=hid hA;have hlt:w.heap.size<W.heap.size:=by subst hW;simp
 clear hW hA;cases h_pn:Gid.none ⟨⟨pt,pr⟩,pi⟩ with
 |false=>
  obtain rfl:ans=false:=by rw[HV.out];simp only[h_pn,Bool.and_false,Bool.false_and,Bool.and_true,Bool.true_and]
  exact absurd HVT.out (by decide)
 |true=>
 by_cases h_nm0:name.data.toList=[]
 rotate_left
 ·have h_nm:decide (name.data.toList=[])=false:=decide_eq_false h_nm0;obtain rfl:ans=false:=by rw[HV.out];simp only[h_pn,h_nm,Bool.and_false,Bool.false_and,Bool.and_true,Bool.true_and]
  exact absurd HVT.out (by decide)
 have h_nm:decide (name.data.toList=[])=true:=decide_eq_true h_nm0;cases h_d:(!dir) with
 |false=>
  obtain rfl:ans=false:=by rw[HV.out];simp only[h_pn,h_nm,h_d,Bool.and_false,Bool.false_and,Bool.and_true,Bool.true_and]
  exact absurd HVT.out (by decide)
 |true=>
 cases h_an:Gid.none ⟨⟨at_,ar⟩,ai⟩ with
 |false=>
  obtain rfl:ans=false:=by rw[HV.out];simp only[h_pn,h_nm,h_d,h_an,Bool.and_false,Bool.false_and,Bool.and_true,Bool.true_and]
  exact absurd HVT.out (by decide)
 |true=>
 cases h_en_:Gid.none ⟨⟨et,er⟩,ei⟩ with
 |false=>
  obtain rfl:ans=false:=by rw[HV.out];simp only[h_pn,h_nm,h_d,h_an,h_en_,Bool.and_false,Bool.false_and,Bool.and_true,Bool.true_and]
  exact absurd HVT.out (by decide)
 |true=>
 by_cases h_tx0:text.data.toList=[]
 rotate_left
 ·have h_tx:decide (text.data.toList=[])=false:=decide_eq_false h_tx0;obtain rfl:ans=false:=by rw[HV.out];simp only[h_pn,h_nm,h_d,h_an,h_en_,h_tx,Bool.and_false,Bool.false_and,Bool.and_true,Bool.true_and]
  exact absurd HVT.out (by decide)
 have h_tx:decide (text.data.toList=[])=true:=decide_eq_true h_tx0;by_cases h_el0:en=0
 rotate_left
 ·have h_el:decide (en=0)=false:=decide_eq_false h_el0;obtain rfl:ans=false:=by rw[HV.out];simp only[h_pn,h_nm,h_d,h_an,h_en_,h_tx,h_el,Bool.and_false,Bool.false_and,Bool.and_true,Bool.true_and]
  exact absurd HVT.out (by decide)
 have h_el:decide (en=0)=true:=decide_eq_true h_el0;obtain rfl:ans=true:=by rw[HV.out];simp only[h_pn,h_nm,h_d,h_an,h_en_,h_tx,h_el,Bool.and_false,Bool.false_and,Bool.and_true,Bool.true_and]
 obtain rfl:=bs_nil.1 h_nm0;obtain rfl:dir=false:=by simpa using h_d
 obtain rfl:=bs_nil.1 h_tx0;have s_el:((en:Int) == 0)=true:=by rw[beq_iff_eq];omega
 have s_el2:decide (en=0)=true:=decide_eq_true h_el0;have hA_W:W.heap[w.heap.size]? =some (.cells #[k,nt,nr,ni,pt,pr,pi,.string ⟨#[]⟩,false,.slice dA dn dc,at_,ar,ai,et,er,ei,.string ⟨#[]⟩,.slice eA en ec] 125 (0,0)):=HA.out;have x4:=rg4 hA_W;have x5:=rg5 hA_W;have x6:=rg6 hA_W;have x7:=rg7 hA_W;have x8:=rg8 hA_W;have x9:=rg9 hA_W;have x10:=rg10 hA_W;have x11:=rg11 hA_W;have x12:=rg12 hA_W;have x13:=rg13 hA_W;have x14:=rg14 hA_W;have x15:=rg15 hA_W;have x16:=rg16 hA_W;have x17:=rg17 hA_W;clear hA_W;have c_pn:=λd os=>Calls.regrown_of (refnone_any pt pr pi (grow (redrawn W d) os));rw[h_pn] at c_pn;have H_an:=hid h_an;have H_en_:=hid h_en_;clear h_pn h_nm h_d h_an h_en_ h_tx h_nm0 h_tx0 h_el0 h_el;go_enter Tryz.func160,Tryz.ntmps160;go_upto_region 1 with(fail);rw[<-HW.out];refine wp_plain_quiet_below ?_
 repeat(any_goals(first|go_big_quiet_step (with_reducible first|exact c_pn _ _)|quiet_step (with_reducible first|exact c_pn _ _)))
 refine qz λwq hBq=> ?_;have hB1:=hBW.trans (hBq.mono hBW.size);have hA1:=(hBq.block _ hlt).trans HA.out;have HA1:=hid hA1;clear hA1 hBq x4 x5 x6 x7 x8 x9 x10 x11 x12 x13 x14 x15 x16 x17 c_pn;obtain⟨W1,hW1⟩:∃W1,W1=wq:=⟨_,rfl⟩;rw[<-hW1] at hB1 HA1 ⊢;clear hW1;go_upto_region 3 with(fail);have hA_W1:W1.heap[w.heap.size]? =some (.cells #[k,nt,nr,ni,pt,pr,pi,.string ⟨#[]⟩,false,.slice dA dn dc,at_,ar,ai,et,er,ei,.string ⟨#[]⟩,.slice eA en ec] 125 (0,0)):=HA1.out;have x4:=rg4 hA_W1;have x5:=rg5 hA_W1;have x6:=rg6 hA_W1;have x7:=rg7 hA_W1;have x8:=rg8 hA_W1;have x9:=rg9 hA_W1;have x10:=rg10 hA_W1;have x11:=rg11 hA_W1;have x12:=rg12 hA_W1;have x13:=rg13 hA_W1;have x14:=rg14 hA_W1;have x15:=rg15 hA_W1;have x16:=rg16 hA_W1;have x17:=rg17 hA_W1;clear hA_W1;have h_an:=H_an.out;have h_en_:=H_en_.out;have c_an:=λd os=>Calls.regrown_of (refnone_any at_ ar ai (grow (redrawn W1 d) os));rw[h_an] at c_an;have c_en_:=λd os=>Calls.regrown_of (refnone_any et er ei (grow (redrawn W1 d) os));rw[h_en_] at c_en_;clear h_an h_en_;refine wp_plain_quiet_below ?_
 repeat(any_goals(first|go_big_quiet_step (with_reducible first|exact c_an _ _|exact c_en_ _ _)|quiet_step (with_reducible first|exact c_an _ _|exact c_en_ _ _)))
 refine qz λwq hBq=> ?_;go_wp2;go_ret;exact⟨rfl,hB1.trans (hBq.mono hB1.size)⟩
end
section
open Go.RowKit Go.Lib Go.Sort
set_option linter.unusedSimpArgs false
theorem vbare_3 (k nt nr ni pt pr pi:Int) (name:ByteArray) (dir:Bool) (dA:Option Addr) (dn dc:Nat) (at_ ar ai et er ei:Int) (text:ByteArray) (eA:Option Addr) (en ec:Nat) (w:World) (hvt:((Gid.none ⟨⟨pt,pr⟩,pi⟩) && (decide (name.data.toList=[])) && (!dir) && (decide (dn=0)) && (decide (en=0)))=true):
  Calls Tryz.prog 160 #[.agg #[k,nt,nr,ni,pt,pr,pi,name,dir,.slice dA dn dc,at_,ar,ai,et,er,ei,text,.slice eA en ec],false,false,false,true,false] w λe w'=>e= .returned (.bool ((Gid.none ⟨⟨pt,pr⟩,pi⟩) && (decide (name.data.toList=[])) && (!dir) && (decide (dn=0)) && (decide (en=0))))∧Below w.heap.size w w':=by
 obtain⟨ans,ha⟩:∃a,a=((Gid.none ⟨⟨pt,pr⟩,pi⟩) && (decide (name.data.toList=[])) && (!dir) && (decide (dn=0)) && (decide (en=0))):=⟨_,rfl⟩;rw[<-ha];have HV:=hid ha;have HVT:=hid (show ans=true by rw[ha];exact hvt);clear hvt;clear ha;obtain⟨W,hW⟩:∃W,W=w.alloc (.cells #[k,nt,nr,ni,pt,pr,pi,name,dir,.slice dA dn dc,at_,ar,ai,et,er,ei,text,.slice eA en ec] 125):=⟨_,rfl⟩;have hBW:Below w.heap.size w W:=by subst hW;exact(Below.refl _ _).alloc (Nat.le_refl _) _
 have hA:W.heap[w.heap.size]? =some (.cells #[k,nt,nr,ni,pt,pr,pi,name,dir,.slice dA dn dc,at_,ar,ai,et,er,ei,text,.slice eA en ec] 125 (0,0)):=by subst hW;exact heap_alloc_new _ _
 have HW:=hid hW;have HA:=hid hA;have hlt:w.heap.size<W.heap.size:=by subst hW;simp
 clear hW hA;cases h_pn:Gid.none ⟨⟨pt,pr⟩,pi⟩ with
 |false=>
  obtain rfl:ans=false:=by rw[HV.out];simp only[h_pn,Bool.and_false,Bool.false_and,Bool.and_true,Bool.true_and]
  exact absurd HVT.out (by decide)
 |true=>
 by_cases h_nm0:name.data.toList=[]
 rotate_left
 ·have h_nm:decide (name.data.toList=[])=false:=decide_eq_false h_nm0;obtain rfl:ans=false:=by rw[HV.out];simp only[h_pn,h_nm,Bool.and_false,Bool.false_and,Bool.and_true,Bool.true_and]
  exact absurd HVT.out (by decide)
 have h_nm:decide (name.data.toList=[])=true:=decide_eq_true h_nm0;cases h_d:(!dir) with
 |false=>
  obtain rfl:ans=false:=by rw[HV.out];simp only[h_pn,h_nm,h_d,Bool.and_false,Bool.false_and,Bool.and_true,Bool.true_and]
  exact absurd HVT.out (by decide)
 |true=>
 by_cases h_dl0:dn=0
 rotate_left
 ·have h_dl:decide (dn=0)=false:=decide_eq_false h_dl0;obtain rfl:ans=false:=by rw[HV.out];simp only[h_pn,h_nm,h_d,h_dl,Bool.and_false,Bool.false_and,Bool.and_true,Bool.true_and]
  exact absurd HVT.out (by decide)
 have h_dl:decide (dn=0)=true:=decide_eq_true h_dl0;by_cases h_el0:en=0
 rotate_left
 ·have h_el:decide (en=0)=false:=decide_eq_false h_el0;obtain rfl:ans=false:=by rw[HV.out];simp only[h_pn,h_nm,h_d,h_dl,h_el,Bool.and_false,Bool.false_and,Bool.and_true,Bool.true_and]
  exact absurd HVT.out (by decide)
 have h_el:decide (en=0)=true:=decide_eq_true h_el0;obtain rfl:ans=true:=by rw[HV.out];simp only[h_pn,h_nm,h_d,h_dl,h_el,Bool.and_false,Bool.false_and,Bool.and_true,Bool.true_and]
 obtain rfl:=bs_nil.1 h_nm0;obtain rfl:dir=false:=by simpa using h_d
 have s_dl:decide (0<dn)=false:=decide_eq_false (by omega);have s_el:((en:Int) == 0)=true:=by rw[beq_iff_eq];omega
 have s_el2:decide (en=0)=true:=decide_eq_true h_el0;have hA_W:W.heap[w.heap.size]? =some (.cells #[k,nt,nr,ni,pt,pr,pi,.string ⟨#[]⟩,false,.slice dA dn dc,at_,ar,ai,et,er,ei,text,.slice eA en ec] 125 (0,0)):=HA.out;have x4:=rg4 hA_W;have x5:=rg5 hA_W;have x6:=rg6 hA_W;have x7:=rg7 hA_W;have x8:=rg8 hA_W;have x9:=rg9 hA_W;have x10:=rg10 hA_W;have x11:=rg11 hA_W;have x12:=rg12 hA_W;have x13:=rg13 hA_W;have x14:=rg14 hA_W;have x15:=rg15 hA_W;have x16:=rg16 hA_W;have x17:=rg17 hA_W;clear hA_W;have c_pn:=λd os=>Calls.regrown_of (refnone_any pt pr pi (grow (redrawn W d) os));rw[h_pn] at c_pn;clear h_pn h_nm h_d h_nm0 h_dl0 h_el0 h_dl h_el;go_enter Tryz.func160,Tryz.ntmps160;go_upto_region 1 with(fail);rw[<-HW.out];refine wp_plain_quiet_below ?_
 repeat(any_goals(first|go_big_quiet_step (with_reducible first|exact c_pn _ _)|quiet_step (with_reducible first|exact c_pn _ _)))
 refine qz λwq hBq=> ?_;have hB1:=hBW.trans (hBq.mono hBW.size);have hA1:=(hBq.block _ hlt).trans HA.out;have HA1:=hid hA1;clear hA1 hBq x4 x5 x6 x7 x8 x9 x10 x11 x12 x13 x14 x15 x16 x17 c_pn;obtain⟨W1,hW1⟩:∃W1,W1=wq:=⟨_,rfl⟩;rw[<-hW1] at hB1 HA1 ⊢;clear hW1;go_upto_region 3 with(fail);have hA_W1:W1.heap[w.heap.size]? =some (.cells #[k,nt,nr,ni,pt,pr,pi,.string ⟨#[]⟩,false,.slice dA dn dc,at_,ar,ai,et,er,ei,text,.slice eA en ec] 125 (0,0)):=HA1.out;have x4:=rg4 hA_W1;have x5:=rg5 hA_W1;have x6:=rg6 hA_W1;have x7:=rg7 hA_W1;have x8:=rg8 hA_W1;have x9:=rg9 hA_W1;have x10:=rg10 hA_W1;have x11:=rg11 hA_W1;have x12:=rg12 hA_W1;have x13:=rg13 hA_W1;have x14:=rg14 hA_W1;have x15:=rg15 hA_W1;have x16:=rg16 hA_W1;have x17:=rg17 hA_W1;clear hA_W1;refine wp_plain_quiet_below ?_
 repeat(any_goals(first|go_big_quiet_step (fail)|quiet_step (fail)))
 refine qz λwq hBq=> ?_;go_wp2;go_ret;exact⟨rfl,hB1.trans (hBq.mono hB1.size)⟩
theorem vbare_4 (k nt nr ni pt pr pi:Int) (name:ByteArray) (dir:Bool) (dA:Option Addr) (dn dc:Nat) (at_ ar ai et er ei:Int) (text:ByteArray) (eA:Option Addr) (en ec:Nat) (w:World) (hvt:((Gid.none ⟨⟨pt,pr⟩,pi⟩) && (decide (name.data.toList=[])) && (!dir) && (decide (dn=0)) && (Gid.none ⟨⟨at_,ar⟩,ai⟩) && (Gid.none ⟨⟨et,er⟩,ei⟩) && (decide (text.data.toList=[])))=true):
  Calls Tryz.prog 160 #[.agg #[k,nt,nr,ni,pt,pr,pi,name,dir,.slice dA dn dc,at_,ar,ai,et,er,ei,text,.slice eA en ec],false,false,false,false,true] w λe w'=>e= .returned (.bool ((Gid.none ⟨⟨pt,pr⟩,pi⟩) && (decide (name.data.toList=[])) && (!dir) && (decide (dn=0)) && (Gid.none ⟨⟨at_,ar⟩,ai⟩) && (Gid.none ⟨⟨et,er⟩,ei⟩) && (decide (text.data.toList=[]))))∧Below w.heap.size w w':=by
 obtain⟨ans,ha⟩:∃a,a=((Gid.none ⟨⟨pt,pr⟩,pi⟩) && (decide (name.data.toList=[])) && (!dir) && (decide (dn=0)) && (Gid.none ⟨⟨at_,ar⟩,ai⟩) && (Gid.none ⟨⟨et,er⟩,ei⟩) && (decide (text.data.toList=[]))):=⟨_,rfl⟩;rw[<-ha];have HV:=hid ha;have HVT:=hid (show ans=true by rw[ha];exact hvt);clear hvt;clear ha;obtain⟨W,hW⟩:∃W,W=w.alloc (.cells #[k,nt,nr,ni,pt,pr,pi,name,dir,.slice dA dn dc,at_,ar,ai,et,er,ei,text,.slice eA en ec] 125):=⟨_,rfl⟩;have hBW:Below w.heap.size w W:=by subst hW;exact(Below.refl _ _).alloc (Nat.le_refl _) _
 have hA:W.heap[w.heap.size]? =some (.cells #[k,nt,nr,ni,pt,pr,pi,name,dir,.slice dA dn dc,at_,ar,ai,et,er,ei,text,.slice eA en ec] 125 (0,0)):=by subst hW;exact heap_alloc_new _ _
 have HW:=hid hW;have HA:=hid hA;have hlt:w.heap.size<W.heap.size:=by subst hW;simp
 clear hW hA;cases h_pn:Gid.none ⟨⟨pt,pr⟩,pi⟩ with
 |false=>
  obtain rfl:ans=false:=by rw[HV.out];simp only[h_pn,Bool.and_false,Bool.false_and,Bool.and_true,Bool.true_and]
  exact absurd HVT.out (by decide)
 |true=>
 by_cases h_nm0:name.data.toList=[]
 rotate_left
 ·have h_nm:decide (name.data.toList=[])=false:=decide_eq_false h_nm0;obtain rfl:ans=false:=by rw[HV.out];simp only[h_pn,h_nm,Bool.and_false,Bool.false_and,Bool.and_true,Bool.true_and]
  exact absurd HVT.out (by decide)
 have h_nm:decide (name.data.toList=[])=true:=decide_eq_true h_nm0;cases h_d:(!dir) with
 |false=>
  obtain rfl:ans=false:=by rw[HV.out];simp only[h_pn,h_nm,h_d,Bool.and_false,Bool.false_and,Bool.and_true,Bool.true_and]
  exact absurd HVT.out (by decide)
 |true=>
 by_cases h_dl0:dn=0
 rotate_left
 ·have h_dl:decide (dn=0)=false:=decide_eq_false h_dl0;obtain rfl:ans=false:=by rw[HV.out];simp only[h_pn,h_nm,h_d,h_dl,Bool.and_false,Bool.false_and,Bool.and_true,Bool.true_and]
  exact absurd HVT.out (by decide)
 have h_dl:decide (dn=0)=true:=decide_eq_true h_dl0;cases h_an:Gid.none ⟨⟨at_,ar⟩,ai⟩ with
 |false=>
  obtain rfl:ans=false:=by rw[HV.out];simp only[h_pn,h_nm,h_d,h_dl,h_an,Bool.and_false,Bool.false_and,Bool.and_true,Bool.true_and]
  exact absurd HVT.out (by decide)
 |true=>
 cases h_en_:Gid.none ⟨⟨et,er⟩,ei⟩ with
 |false=>
  obtain rfl:ans=false:=by rw[HV.out];simp only[h_pn,h_nm,h_d,h_dl,h_an,h_en_,Bool.and_false,Bool.false_and,Bool.and_true,Bool.true_and]
  exact absurd HVT.out (by decide)
 |true=>
 by_cases h_tx0:text.data.toList=[]
 rotate_left
 ·have h_tx:decide (text.data.toList=[])=false:=decide_eq_false h_tx0;obtain rfl:ans=false:=by rw[HV.out];simp only[h_pn,h_nm,h_d,h_dl,h_an,h_en_,h_tx,Bool.and_false,Bool.false_and,Bool.and_true,Bool.true_and]
  exact absurd HVT.out (by decide)
 have h_tx:decide (text.data.toList=[])=true:=decide_eq_true h_tx0;obtain rfl:ans=true:=by rw[HV.out];simp only[h_pn,h_nm,h_d,h_dl,h_an,h_en_,h_tx,Bool.and_false,Bool.false_and,Bool.and_true,Bool.true_and]
 obtain rfl:=bs_nil.1 h_nm0;obtain rfl:dir=false:=by simpa using h_d
 have s_dl:decide (0<dn)=false:=decide_eq_false (by omega);obtain rfl:=bs_nil.1 h_tx0;have hA_W:W.heap[w.heap.size]? =some (.cells #[k,nt,nr,ni,pt,pr,pi,.string ⟨#[]⟩,false,.slice dA dn dc,at_,ar,ai,et,er,ei,.string ⟨#[]⟩,.slice eA en ec] 125 (0,0)):=HA.out;have x4:=rg4 hA_W;have x5:=rg5 hA_W;have x6:=rg6 hA_W;have x7:=rg7 hA_W;have x8:=rg8 hA_W;have x9:=rg9 hA_W;have x10:=rg10 hA_W;have x11:=rg11 hA_W;have x12:=rg12 hA_W;have x13:=rg13 hA_W;have x14:=rg14 hA_W;have x15:=rg15 hA_W;have x16:=rg16 hA_W;have x17:=rg17 hA_W;clear hA_W;have c_pn:=λd os=>Calls.regrown_of (refnone_any pt pr pi (grow (redrawn W d) os));rw[h_pn] at c_pn;have H_an:=hid h_an;have H_en_:=hid h_en_;clear h_pn h_nm h_d h_an h_en_ h_tx h_nm0 h_tx0 h_dl0 h_dl;go_enter Tryz.func160,Tryz.ntmps160;go_upto_region 1 with(fail);rw[<-HW.out];refine wp_plain_quiet_below ?_
 repeat(any_goals(first|go_big_quiet_step (with_reducible first|exact c_pn _ _)|quiet_step (with_reducible first|exact c_pn _ _)))
 refine qz λwq hBq=> ?_;have hB1:=hBW.trans (hBq.mono hBW.size);have hA1:=(hBq.block _ hlt).trans HA.out;have HA1:=hid hA1;clear hA1 hBq x4 x5 x6 x7 x8 x9 x10 x11 x12 x13 x14 x15 x16 x17 c_pn;obtain⟨W1,hW1⟩:∃W1,W1=wq:=⟨_,rfl⟩;rw[<-hW1] at hB1 HA1 ⊢;clear hW1;go_upto_region 3 with(fail);have hA_W1:W1.heap[w.heap.size]? =some (.cells #[k,nt,nr,ni,pt,pr,pi,.string ⟨#[]⟩,false,.slice dA dn dc,at_,ar,ai,et,er,ei,.string ⟨#[]⟩,.slice eA en ec] 125 (0,0)):=HA1.out;have x4:=rg4 hA_W1;have x5:=rg5 hA_W1;have x6:=rg6 hA_W1;have x7:=rg7 hA_W1;have x8:=rg8 hA_W1;have x9:=rg9 hA_W1;have x10:=rg10 hA_W1;have x11:=rg11 hA_W1;have x12:=rg12 hA_W1;have x13:=rg13 hA_W1;have x14:=rg14 hA_W1;have x15:=rg15 hA_W1;have x16:=rg16 hA_W1;have x17:=rg17 hA_W1;clear hA_W1;have h_an:=H_an.out;have h_en_:=H_en_.out;have c_an:=λd os=>Calls.regrown_of (refnone_any at_ ar ai (grow (redrawn W1 d) os));rw[h_an] at c_an;have c_en_:=λd os=>Calls.regrown_of (refnone_any et er ei (grow (redrawn W1 d) os));rw[h_en_] at c_en_;clear h_an h_en_;refine wp_plain_quiet_below ?_
 repeat(any_goals(first|go_big_quiet_step (with_reducible first|exact c_an _ _|exact c_en_ _ _)|quiet_step (with_reducible first|exact c_an _ _|exact c_en_ _ _)))
 refine qz λwq hBq=> ?_;go_wp2;go_ret;exact⟨rfl,hB1.trans (hBq.mono hB1.size)⟩
end
end
section
open Go.RowKit Go.Lib Go.Sort
attribute [local go_sem ↓] Go.wp_at_zero Go.wp_at_succ
def v9refV (g:Gst) (o:Gop) (k:Nat):Int:=if (kindB g o k && bareB o)=true then (moreOf o:Int) else -1
theorem v9refV_no {g:Gst} {o:Gop} {k:Nat} (h:(kindB g o k && bareB o)=false):v9refV g o k= -1:=by unfold v9refV;rw[h];rfl
theorem v9refV_yes {g:Gst} {o:Gop} {k:Nat} (h:(kindB g o k && bareB o)=true):v9refV g o k=(moreOf o:Int):=by unfold v9refV;rw[h];rfl
theorem v9row_range {W:World} {b:Nat} {T:TypeId} {cs:List Value} (h:W.heap[b]? =some (.cells cs.toArray T (0,0))):W.rangeAt b 0 cs:=λj v hv=>by
 rw[Nat.zero_add,cell_of_row _ _ _ _ _ _ h];simpa using hv
theorem vop_0 (gt gr:Int) (n':Int) (dA':Option Addr) (dn' dc':Nat) (ut ur:Int) (oA:Option Addr) (on oc:Nat) (k:Nat) (nt nr ni pt pr pi:Int) (name:ByteArray) (dir:Bool) (dots:List Gst) (at_ ar ai et er ei:Int) (text:ByteArray) (elems:List Gid) (dA:Option Addr) (dc:Nat) (eA:Option Addr) (ec:Nat) (S:Nat->Prop) (w:World) (hn:name.size<=9223372036854775807) (hdl:dots.length<=9223372036854775807) (hel:elems.length<=9223372036854775807) (hD:StsS w S dA dots) (hE:IdsS w S eA elems) (hvt:(kindB ⟨gt,gr⟩ (⟨0,⟨⟨nt,nr⟩,ni⟩,⟨⟨pt,pr⟩,pi⟩,name,dir,dots,⟨⟨at_,ar⟩,ai⟩,⟨⟨et,er⟩,ei⟩,text,elems⟩:Gop) k && bareB (⟨0,⟨⟨nt,nr⟩,ni⟩,⟨⟨pt,pr⟩,pi⟩,name,dir,dots,⟨⟨at_,ar⟩,ai⟩,⟨⟨et,er⟩,ei⟩,text,elems⟩:Gop))=true):
  Calls Tryz.prog 104 #[.agg #[gt,gr,n',.slice dA' dn' dc',ut,ur,.slice oA on oc],.agg #[(0:Int),nt,nr,ni,pt,pr,pi,name,dir,.slice dA dots.length dc,at_,ar,ai,et,er,ei,text,.slice eA elems.length ec],.int .i64 k] w λe w'=>e= .returned (.int .i64 (v9refV ⟨gt,gr⟩ (⟨0,⟨⟨nt,nr⟩,ni⟩,⟨⟨pt,pr⟩,pi⟩,name,dir,dots,⟨⟨at_,ar⟩,ai⟩,⟨⟨et,er⟩,ei⟩,text,elems⟩:Gop) k))∧Below w.heap.size w w':=by
 obtain⟨ans,hans⟩:∃v,v=v9refV ⟨gt,gr⟩ (⟨0,⟨⟨nt,nr⟩,ni⟩,⟨⟨pt,pr⟩,pi⟩,name,dir,dots,⟨⟨at_,ar⟩,ai⟩,⟨⟨et,er⟩,ei⟩,text,elems⟩:Gop) k:=⟨_,rfl⟩;rw[<-hans];have HVT:=hid (show ans≠ -1 from by rw[hans,v9refV_yes hvt];omega);have hbt:bareB (⟨0,⟨⟨nt,nr⟩,ni⟩,⟨⟨pt,pr⟩,pi⟩,name,dir,dots,⟨⟨at_,ar⟩,ai⟩,⟨⟨et,er⟩,ei⟩,text,elems⟩:Gop)=true:=(Bool.and_eq_true_iff.1 hvt).2;obtain⟨bb,hbb⟩:∃b,b=bareB (⟨0,⟨⟨nt,nr⟩,ni⟩,⟨⟨pt,pr⟩,pi⟩,name,dir,dots,⟨⟨at_,ar⟩,ai⟩,⟨⟨et,er⟩,ei⟩,text,elems⟩:Gop):=⟨_,rfl⟩;have HBB:=hid hbb
 have HBA:=hid (show ∀W,Calls Tryz.prog 160 #[.agg #[(0:Int),nt,nr,ni,pt,pr,pi,name,dir,.slice dA dots.length dc,at_,ar,ai,et,er,ei,text,.slice eA elems.length ec],true,true,false,false,false] W λe w'=>e= .returned (.bool bb)∧Below W.heap.size W w' from λW=>by
  refine(vbare_0 0 nt nr ni pt pr pi name dir dA dots.length dc at_ ar ai et er ei text eA elems.length ec W (Eq.trans (b:=bareB (⟨0,⟨⟨nt,nr⟩,ni⟩,⟨⟨pt,pr⟩,pi⟩,name,dir,dots,⟨⟨at_,ar⟩,ai⟩,⟨⟨et,er⟩,ei⟩,text,elems⟩:Gop)) (by simp[bareB,Bool.and_assoc]) hbt)).mono ?_;rintro e w' ⟨rfl,hB⟩;refine⟨?_,hB⟩;congr 2;rw[hbb]
  simp[bareB,Bool.and_assoc])
 have HK:Hid (kindB ⟨gt,gr⟩ (⟨0,⟨⟨nt,nr⟩,ni⟩,⟨⟨pt,pr⟩,pi⟩,name,dir,dots,⟨⟨at_,ar⟩,ai⟩,⟨⟨et,er⟩,ei⟩,text,elems⟩:Gop) k=(Gid.eqb ⟨⟨nt,nr⟩,ni⟩ ⟨⟨gt,gr⟩,(k:Int)⟩ && parentB ⟨gt,gr⟩ ⟨⟨pt,pr⟩,pi⟩ k && nameB name)):=hid (by simp[kindB]);have HMO:Hid ((moreOf (⟨0,⟨⟨nt,nr⟩,ni⟩,⟨⟨pt,pr⟩,pi⟩,name,dir,dots,⟨⟨at_,ar⟩,ai⟩,⟨⟨et,er⟩,ei⟩,text,elems⟩:Gop):Int)=1):=hid (by simp[moreOf]);have HANS:=hid hans;clear hvt hbt hans hbb;go_enter Tryz.func104,Tryz.ntmps104;go_upto_region 2 with fail;generalize hW:(((w.alloc (.cells #[gt,gr,n',.slice dA' dn' dc',ut,ur,.slice oA on oc] 45)).alloc (.cells #[(0:Int),nt,nr,ni,pt,pr,pi,name,dir,.slice dA dots.length dc,at_,ar,ai,et,er,ei,text,.slice eA elems.length ec] 125)).alloc (.cells #[gt,gr,.int .i64 k] 108))=W;have HG:=hid (show W.heap[w.heap.size]? =some (.cells #[gt,gr,n',.slice dA' dn' dc',ut,ur,.slice oA on oc] 45 (0,0)) by rw[<-hW];exact(Below.heap_alloc _ _ _ (by simp;omega)).trans ((Below.heap_alloc _ _ _ (by simp)).trans (heap_alloc_new _ _)));have HO:=hid (show W.heap[w.heap.size+1]? =some (.cells #[(0:Int),nt,nr,ni,pt,pr,pi,name,dir,.slice dA dots.length dc,at_,ar,ai,et,er,ei,text,.slice eA elems.length ec] 125 (0,0)) by rw[<-hW];exact(Below.heap_alloc _ _ _ (by simp)).trans (heap_alloc_new' _ _ (by simp)));have HJ:=hid (show W.heap[w.heap.size+2]? =some (.cells #[gt,gr,.int .i64 k] 108 (0,0)) by rw[<-hW];exact heap_alloc_new' _ _ (by simp))
 have HBW:=hid (show Below w.heap.size w W by rw[<-hW];exact(((Below.refl _ _).alloc (Nat.le_refl _) _).alloc (by simp) _).alloc (by simp;omega) _);clear hW;have r0:=cw0 HO.out;go_upto_region 4 with fail;clear r0;have hBW0:=HBW.out;have x1:=rg1 HO.out;have x2:=rg2 HO.out;have x3:=rg3 HO.out;have x4:=rg4 HO.out;have x5:=rg5 HO.out;have x6:=rg6 HO.out;have x7:=rg7 HO.out;have y0:=rg0 HG.out;have y1:=rg1 HG.out;have y2:=rg2 HG.out;have y3:=rg3 HG.out;have y4:=rg4 HG.out;have y5:=rg5 HG.out;have y6:=rg6 HG.out;have z0:=rg0 HJ.out;have z1:=rg1 HJ.out;have z2:=rg2 HJ.out;obtain⟨opl,hol⟩:∃l:List Value,l=[.int .i64 0,.int .i64 nt,.int .i64 nr,.int .i64 ni,.int .i64 pt,.int .i64 pr,.int .i64 pi,.string name,.bool dir,.slice dA dots.length dc,.int .i64 at_,.int .i64 ar,.int .i64 ai,.int .i64 et,.int .i64 er,.int .i64 ei,.string text,.slice eA elems.length ec]:=⟨_,rfl⟩;have HOL:=hid hol;have HRR:=hid (range_regrown (show W.rangeAt (w.heap.size+1) 0 opl by rw[hol];exact v9row_range HO.out));have HNL:=hid (show(Tryz.prog.info? 125).map (·.size)=some opl.length by rw[hol];kernel_rfl);clear hol;have cP:=λd os=>Calls.regrown_of (refparent_any ⟨gt,gr⟩ ⟨n',dA',dn',dc',ut,ur,oA,on,oc⟩ ⟨⟨pt,pr⟩,pi⟩ k (grow (redrawn W d) os));have cN:=λd os=>Calls.regrown_same (refname_any name (grow (redrawn W d) os) hn);have cB:=λd os=>Calls.regrown_of (HBA.out (grow (redrawn W d) os));simp only[gxV,idV] at cP;clear hBW0 hD hE HBA hn hdl hel HG HO HJ;cases h0:Gid.eqb ⟨⟨nt,nr⟩,ni⟩ ⟨⟨gt,gr⟩,(k:Int)⟩ with
 |false=>
  have he:=eq_id nt nr ni gt gr k false h0;obtain rfl:ans= -1:=by rw[HANS.out];exact v9refV_no (by rw[HK.out,h0];simp)
  exact absurd rfl HVT.out
 | true=>
  have he:=eq_id nt nr ni gt gr k true h0;have H0:=hid h0;clear h0;cases h1:parentB ⟨gt,gr⟩ ⟨⟨pt,pr⟩,pi⟩ k with
  |false=>
   rw[h1] at cP;obtain rfl:ans= -1:=by rw[HANS.out];exact v9refV_no (by rw[HK.out,H0.out,h1];simp)
   exact absurd rfl HVT.out
  | true=>
   rw[h1] at cP;have H1:=hid h1;clear h1;cases h2:nameB name with
   |false=>
    rw[h2] at cN;obtain rfl:ans= -1:=by rw[HANS.out];exact v9refV_no (by rw[HK.out,H0.out,H1.out,h2];simp)
    exact absurd rfl HVT.out
   | true=>
    rw[h2] at cN;have H2:=hid h2;clear h2;cases bb with
    |false=>
     obtain rfl:ans= -1:=by rw[HANS.out];exact v9refV_no (by rw[<-HBB.out];simp)
     exact absurd rfl HVT.out
    |true=>
     obtain rfl:ans=1:=by rw[HANS.out,v9refV_yes (by rw[<-HBB.out,HK.out,H0.out,H1.out,H2.out];simp),HMO.out]
     refine wp_plain_quiet_below ?_
     repeat(any_goals(first|(refine quiet_load_mid rfl _ _ rfl (w.heap.size+1) 0 rfl opl _ HRR.out Tryz.underlying125 rfl HNL.out ?_;rw[HOL.out])|go_big_quiet_step (first|with_reducible exact cP _ _|with_reducible exact cN _ _|with_reducible exact cB _ _)|quiet_step (first|with_reducible exact cP _ _|with_reducible exact cN _ _|with_reducible exact cB _ _)))
     refine qz λwq hBq=> ?_;go_wp2;go_ret;exact⟨rfl,HBW.out.trans (hBq.mono HBW.out.size)⟩
theorem vop_1 (gt gr:Int) (n':Int) (dA':Option Addr) (dn' dc':Nat) (ut ur:Int) (oA:Option Addr) (on oc:Nat) (k:Nat) (nt nr ni pt pr pi:Int) (name:ByteArray) (dir:Bool) (dots:List Gst) (at_ ar ai et er ei:Int) (text:ByteArray) (elems:List Gid) (dA:Option Addr) (dc:Nat) (eA:Option Addr) (ec:Nat) (S:Nat->Prop) (w:World) (hn:name.size<=9223372036854775807) (hdl:dots.length<=9223372036854775807) (hel:elems.length<=9223372036854775807) (hD:StsS w S dA dots) (hE:IdsS w S eA elems) (hvt:(kindB ⟨gt,gr⟩ (⟨1,⟨⟨nt,nr⟩,ni⟩,⟨⟨pt,pr⟩,pi⟩,name,dir,dots,⟨⟨at_,ar⟩,ai⟩,⟨⟨et,er⟩,ei⟩,text,elems⟩:Gop) k && bareB (⟨1,⟨⟨nt,nr⟩,ni⟩,⟨⟨pt,pr⟩,pi⟩,name,dir,dots,⟨⟨at_,ar⟩,ai⟩,⟨⟨et,er⟩,ei⟩,text,elems⟩:Gop))=true):
  Calls Tryz.prog 104 #[.agg #[gt,gr,n',.slice dA' dn' dc',ut,ur,.slice oA on oc],.agg #[(1:Int),nt,nr,ni,pt,pr,pi,name,dir,.slice dA dots.length dc,at_,ar,ai,et,er,ei,text,.slice eA elems.length ec],.int .i64 k] w λe w'=>e= .returned (.int .i64 (v9refV ⟨gt,gr⟩ (⟨1,⟨⟨nt,nr⟩,ni⟩,⟨⟨pt,pr⟩,pi⟩,name,dir,dots,⟨⟨at_,ar⟩,ai⟩,⟨⟨et,er⟩,ei⟩,text,elems⟩:Gop) k))∧Below w.heap.size w w':=by
 obtain⟨ans,hans⟩:∃v,v=v9refV ⟨gt,gr⟩ (⟨1,⟨⟨nt,nr⟩,ni⟩,⟨⟨pt,pr⟩,pi⟩,name,dir,dots,⟨⟨at_,ar⟩,ai⟩,⟨⟨et,er⟩,ei⟩,text,elems⟩:Gop) k:=⟨_,rfl⟩;rw[<-hans];have HVT:=hid (show ans≠ -1 from by rw[hans,v9refV_yes hvt];omega);have hbt:bareB (⟨1,⟨⟨nt,nr⟩,ni⟩,⟨⟨pt,pr⟩,pi⟩,name,dir,dots,⟨⟨at_,ar⟩,ai⟩,⟨⟨et,er⟩,ei⟩,text,elems⟩:Gop)=true:=(Bool.and_eq_true_iff.1 hvt).2;obtain⟨bb,hbb⟩:∃b,b=bareB (⟨1,⟨⟨nt,nr⟩,ni⟩,⟨⟨pt,pr⟩,pi⟩,name,dir,dots,⟨⟨at_,ar⟩,ai⟩,⟨⟨et,er⟩,ei⟩,text,elems⟩:Gop):=⟨_,rfl⟩;have HBB:=hid hbb
 have HBA:=hid (show ∀W,Calls Tryz.prog 160 #[.agg #[(1:Int),nt,nr,ni,pt,pr,pi,name,dir,.slice dA dots.length dc,at_,ar,ai,et,er,ei,text,.slice eA elems.length ec],true,false,false,false,false] W λe w'=>e= .returned (.bool bb)∧Below W.heap.size W w' from λW=>by
  refine(vbare_1 1 nt nr ni pt pr pi name dir dA dots.length dc at_ ar ai et er ei text eA elems.length ec W (Eq.trans (b:=bareB (⟨1,⟨⟨nt,nr⟩,ni⟩,⟨⟨pt,pr⟩,pi⟩,name,dir,dots,⟨⟨at_,ar⟩,ai⟩,⟨⟨et,er⟩,ei⟩,text,elems⟩:Gop)) (by simp[bareB,Bool.and_assoc]) hbt)).mono ?_;rintro e w' ⟨rfl,hB⟩;refine⟨?_,hB⟩;congr 2;rw[hbb]
  simp[bareB,Bool.and_assoc])
 have HK:Hid (kindB ⟨gt,gr⟩ (⟨1,⟨⟨nt,nr⟩,ni⟩,⟨⟨pt,pr⟩,pi⟩,name,dir,dots,⟨⟨at_,ar⟩,ai⟩,⟨⟨et,er⟩,ei⟩,text,elems⟩:Gop) k=(aheadB ⟨gt,gr⟩ ⟨⟨nt,nr⟩,ni⟩ k && parentB ⟨gt,gr⟩ ⟨⟨pt,pr⟩,pi⟩ k && nameB name)):=hid (by simp[kindB]);have HMO:Hid ((moreOf (⟨1,⟨⟨nt,nr⟩,ni⟩,⟨⟨pt,pr⟩,pi⟩,name,dir,dots,⟨⟨at_,ar⟩,ai⟩,⟨⟨et,er⟩,ei⟩,text,elems⟩:Gop):Int)=0):=hid (by simp[moreOf]);have HANS:=hid hans;clear hvt hbt hans hbb;go_enter Tryz.func104,Tryz.ntmps104;go_upto_region 2 with fail;generalize hW:(((w.alloc (.cells #[gt,gr,n',.slice dA' dn' dc',ut,ur,.slice oA on oc] 45)).alloc (.cells #[(1:Int),nt,nr,ni,pt,pr,pi,name,dir,.slice dA dots.length dc,at_,ar,ai,et,er,ei,text,.slice eA elems.length ec] 125)).alloc (.cells #[gt,gr,.int .i64 k] 108))=W;have HG:=hid (show W.heap[w.heap.size]? =some (.cells #[gt,gr,n',.slice dA' dn' dc',ut,ur,.slice oA on oc] 45 (0,0)) by rw[<-hW];exact(Below.heap_alloc _ _ _ (by simp;omega)).trans ((Below.heap_alloc _ _ _ (by simp)).trans (heap_alloc_new _ _)));have HO:=hid (show W.heap[w.heap.size+1]? =some (.cells #[(1:Int),nt,nr,ni,pt,pr,pi,name,dir,.slice dA dots.length dc,at_,ar,ai,et,er,ei,text,.slice eA elems.length ec] 125 (0,0)) by rw[<-hW];exact(Below.heap_alloc _ _ _ (by simp)).trans (heap_alloc_new' _ _ (by simp)));have HJ:=hid (show W.heap[w.heap.size+2]? =some (.cells #[gt,gr,.int .i64 k] 108 (0,0)) by rw[<-hW];exact heap_alloc_new' _ _ (by simp))
 have HBW:=hid (show Below w.heap.size w W by rw[<-hW];exact(((Below.refl _ _).alloc (Nat.le_refl _) _).alloc (by simp) _).alloc (by simp;omega) _);clear hW;have r0:=cw0 HO.out;go_upto_region 7 with fail;clear r0;have hBW0:=HBW.out;have x1:=rg1 HO.out;have x2:=rg2 HO.out;have x3:=rg3 HO.out;have x4:=rg4 HO.out;have x5:=rg5 HO.out;have x6:=rg6 HO.out;have x7:=rg7 HO.out;have y0:=rg0 HG.out;have y1:=rg1 HG.out;have y2:=rg2 HG.out;have y3:=rg3 HG.out;have y4:=rg4 HG.out;have y5:=rg5 HG.out;have y6:=rg6 HG.out;obtain⟨opl,hol⟩:∃l:List Value,l=[.int .i64 1,.int .i64 nt,.int .i64 nr,.int .i64 ni,.int .i64 pt,.int .i64 pr,.int .i64 pi,.string name,.bool dir,.slice dA dots.length dc,.int .i64 at_,.int .i64 ar,.int .i64 ai,.int .i64 et,.int .i64 er,.int .i64 ei,.string text,.slice eA elems.length ec]:=⟨_,rfl⟩;have HOL:=hid hol;have HRR:=hid (range_regrown (show W.rangeAt (w.heap.size+1) 0 opl by rw[hol];exact v9row_range HO.out));have HNL:=hid (show(Tryz.prog.info? 125).map (·.size)=some opl.length by rw[hol];kernel_rfl);clear hol;have cA:=λd os=>Calls.regrown_of (refahead_any ⟨gt,gr⟩ ⟨n',dA',dn',dc',ut,ur,oA,on,oc⟩ ⟨⟨nt,nr⟩,ni⟩ k (grow (redrawn W d) os));have cP:=λd os=>Calls.regrown_of (refparent_any ⟨gt,gr⟩ ⟨n',dA',dn',dc',ut,ur,oA,on,oc⟩ ⟨⟨pt,pr⟩,pi⟩ k (grow (redrawn W d) os));have cN:=λd os=>Calls.regrown_same (refname_any name (grow (redrawn W d) os) hn);have cB:=λd os=>Calls.regrown_of (HBA.out (grow (redrawn W d) os));simp only[gxV,idV] at cA cP
 clear hBW0 hD hE HBA hn hdl hel HG HO HJ;cases h0:aheadB ⟨gt,gr⟩ ⟨⟨nt,nr⟩,ni⟩ k with
 |false=>
  rw[h0] at cA;obtain rfl:ans= -1:=by rw[HANS.out];exact v9refV_no (by rw[HK.out,h0];simp)
  exact absurd rfl HVT.out
 | true=>
  rw[h0] at cA;have H0:=hid h0;clear h0;cases h1:parentB ⟨gt,gr⟩ ⟨⟨pt,pr⟩,pi⟩ k with
  |false=>
   rw[h1] at cP;obtain rfl:ans= -1:=by rw[HANS.out];exact v9refV_no (by rw[HK.out,H0.out,h1];simp)
   exact absurd rfl HVT.out
  | true=>
   rw[h1] at cP;have H1:=hid h1;clear h1;cases h2:nameB name with
   |false=>
    rw[h2] at cN;obtain rfl:ans= -1:=by rw[HANS.out];exact v9refV_no (by rw[HK.out,H0.out,H1.out,h2];simp)
    exact absurd rfl HVT.out
   | true=>
    rw[h2] at cN;have H2:=hid h2;clear h2;cases bb with
    |false=>
     obtain rfl:ans= -1:=by rw[HANS.out];exact v9refV_no (by rw[<-HBB.out];simp)
     exact absurd rfl HVT.out
    |true=>
     obtain rfl:ans=0:=by rw[HANS.out,v9refV_yes (by rw[<-HBB.out,HK.out,H0.out,H1.out,H2.out];simp),HMO.out]
     refine wp_plain_quiet_below ?_
     repeat(any_goals(first|(refine quiet_load_mid rfl _ _ rfl (w.heap.size+1) 0 rfl opl _ HRR.out Tryz.underlying125 rfl HNL.out ?_;rw[HOL.out])|go_big_quiet_step (first|with_reducible exact cA _ _|with_reducible exact cP _ _|with_reducible exact cN _ _|with_reducible exact cB _ _)|quiet_step (first|with_reducible exact cA _ _|with_reducible exact cP _ _|with_reducible exact cN _ _|with_reducible exact cB _ _)))
     refine qz λwq hBq=> ?_;go_wp2;go_ret;exact⟨rfl,HBW.out.trans (hBq.mono HBW.out.size)⟩
theorem vop_2 (gt gr:Int) (n':Int) (dA':Option Addr) (dn' dc':Nat) (ut ur:Int) (oA:Option Addr) (on oc:Nat) (k:Nat) (nt nr ni pt pr pi:Int) (name:ByteArray) (dir:Bool) (dots:List Gst) (at_ ar ai et er ei:Int) (text:ByteArray) (elems:List Gid) (dA:Option Addr) (dc:Nat) (eA:Option Addr) (ec:Nat) (S:Nat->Prop) (w:World) (hn:name.size<=9223372036854775807) (hdl:dots.length<=9223372036854775807) (hel:elems.length<=9223372036854775807) (hD:StsS w S dA dots) (hE:IdsS w S eA elems) (hvt:(kindB ⟨gt,gr⟩ (⟨2,⟨⟨nt,nr⟩,ni⟩,⟨⟨pt,pr⟩,pi⟩,name,dir,dots,⟨⟨at_,ar⟩,ai⟩,⟨⟨et,er⟩,ei⟩,text,elems⟩:Gop) k && bareB (⟨2,⟨⟨nt,nr⟩,ni⟩,⟨⟨pt,pr⟩,pi⟩,name,dir,dots,⟨⟨at_,ar⟩,ai⟩,⟨⟨et,er⟩,ei⟩,text,elems⟩:Gop))=true):
  Calls Tryz.prog 104 #[.agg #[gt,gr,n',.slice dA' dn' dc',ut,ur,.slice oA on oc],.agg #[(2:Int),nt,nr,ni,pt,pr,pi,name,dir,.slice dA dots.length dc,at_,ar,ai,et,er,ei,text,.slice eA elems.length ec],.int .i64 k] w λe w'=>e= .returned (.int .i64 (v9refV ⟨gt,gr⟩ (⟨2,⟨⟨nt,nr⟩,ni⟩,⟨⟨pt,pr⟩,pi⟩,name,dir,dots,⟨⟨at_,ar⟩,ai⟩,⟨⟨et,er⟩,ei⟩,text,elems⟩:Gop) k))∧Below w.heap.size w w':=by
 obtain⟨ans,hans⟩:∃v,v=v9refV ⟨gt,gr⟩ (⟨2,⟨⟨nt,nr⟩,ni⟩,⟨⟨pt,pr⟩,pi⟩,name,dir,dots,⟨⟨at_,ar⟩,ai⟩,⟨⟨et,er⟩,ei⟩,text,elems⟩:Gop) k:=⟨_,rfl⟩;rw[<-hans];have HVT:=hid (show ans≠ -1 from by rw[hans,v9refV_yes hvt];omega);have hbt:bareB (⟨2,⟨⟨nt,nr⟩,ni⟩,⟨⟨pt,pr⟩,pi⟩,name,dir,dots,⟨⟨at_,ar⟩,ai⟩,⟨⟨et,er⟩,ei⟩,text,elems⟩:Gop)=true:=(Bool.and_eq_true_iff.1 hvt).2;obtain⟨bb,hbb⟩:∃b,b=bareB (⟨2,⟨⟨nt,nr⟩,ni⟩,⟨⟨pt,pr⟩,pi⟩,name,dir,dots,⟨⟨at_,ar⟩,ai⟩,⟨⟨et,er⟩,ei⟩,text,elems⟩:Gop):=⟨_,rfl⟩;have HBB:=hid hbb
 have HBA:=hid (show ∀W,Calls Tryz.prog 160 #[.agg #[(2:Int),nt,nr,ni,pt,pr,pi,name,dir,.slice dA dots.length dc,at_,ar,ai,et,er,ei,text,.slice eA elems.length ec],false,false,true,false,false] W λe w'=>e= .returned (.bool bb)∧Below W.heap.size W w' from λW=>by
  refine(vbare_2 2 nt nr ni pt pr pi name dir dA dots.length dc at_ ar ai et er ei text eA elems.length ec W (Eq.trans (b:=bareB (⟨2,⟨⟨nt,nr⟩,ni⟩,⟨⟨pt,pr⟩,pi⟩,name,dir,dots,⟨⟨at_,ar⟩,ai⟩,⟨⟨et,er⟩,ei⟩,text,elems⟩:Gop)) (by simp[bareB,Bool.and_assoc]) hbt)).mono ?_;rintro e w' ⟨rfl,hB⟩;refine⟨?_,hB⟩;congr 2;rw[hbb]
  simp[bareB,Bool.and_assoc])
 have HK:Hid (kindB ⟨gt,gr⟩ (⟨2,⟨⟨nt,nr⟩,ni⟩,⟨⟨pt,pr⟩,pi⟩,name,dir,dots,⟨⟨at_,ar⟩,ai⟩,⟨⟨et,er⟩,ei⟩,text,elems⟩:Gop) k=(aheadB ⟨gt,gr⟩ ⟨⟨nt,nr⟩,ni⟩ k && dotsB ⟨gt,gr⟩ dots)):=hid (by simp[kindB]);have HMO:Hid ((moreOf (⟨2,⟨⟨nt,nr⟩,ni⟩,⟨⟨pt,pr⟩,pi⟩,name,dir,dots,⟨⟨at_,ar⟩,ai⟩,⟨⟨et,er⟩,ei⟩,text,elems⟩:Gop):Int)=0):=hid (by simp[moreOf]);have HANS:=hid hans;clear hvt hbt hans hbb;go_enter Tryz.func104,Tryz.ntmps104;go_upto_region 2 with fail;generalize hW:(((w.alloc (.cells #[gt,gr,n',.slice dA' dn' dc',ut,ur,.slice oA on oc] 45)).alloc (.cells #[(2:Int),nt,nr,ni,pt,pr,pi,name,dir,.slice dA dots.length dc,at_,ar,ai,et,er,ei,text,.slice eA elems.length ec] 125)).alloc (.cells #[gt,gr,.int .i64 k] 108))=W;have HG:=hid (show W.heap[w.heap.size]? =some (.cells #[gt,gr,n',.slice dA' dn' dc',ut,ur,.slice oA on oc] 45 (0,0)) by rw[<-hW];exact(Below.heap_alloc _ _ _ (by simp;omega)).trans ((Below.heap_alloc _ _ _ (by simp)).trans (heap_alloc_new _ _)));have HO:=hid (show W.heap[w.heap.size+1]? =some (.cells #[(2:Int),nt,nr,ni,pt,pr,pi,name,dir,.slice dA dots.length dc,at_,ar,ai,et,er,ei,text,.slice eA elems.length ec] 125 (0,0)) by rw[<-hW];exact(Below.heap_alloc _ _ _ (by simp)).trans (heap_alloc_new' _ _ (by simp)));have HJ:=hid (show W.heap[w.heap.size+2]? =some (.cells #[gt,gr,.int .i64 k] 108 (0,0)) by rw[<-hW];exact heap_alloc_new' _ _ (by simp))
 have HBW:=hid (show Below w.heap.size w W by rw[<-hW];exact(((Below.refl _ _).alloc (Nat.le_refl _) _).alloc (by simp) _).alloc (by simp;omega) _);clear hW;have r0:=cw0 HO.out;go_upto_region 10 with fail;clear r0;have hBW0:=HBW.out;have x1:=rg1 HO.out;have x2:=rg2 HO.out;have x3:=rg3 HO.out;have x9:=rg9 HO.out;have y0:=rg0 HG.out;have y1:=rg1 HG.out;have y2:=rg2 HG.out;have y3:=rg3 HG.out;have y4:=rg4 HG.out;have y5:=rg5 HG.out;have y6:=rg6 HG.out;obtain⟨opl,hol⟩:∃l:List Value,l=[.int .i64 2,.int .i64 nt,.int .i64 nr,.int .i64 ni,.int .i64 pt,.int .i64 pr,.int .i64 pi,.string name,.bool dir,.slice dA dots.length dc,.int .i64 at_,.int .i64 ar,.int .i64 ai,.int .i64 et,.int .i64 er,.int .i64 ei,.string text,.slice eA elems.length ec]:=⟨_,rfl⟩;have HOL:=hid hol;have HRR:=hid (range_regrown (show W.rangeAt (w.heap.size+1) 0 opl by rw[hol];exact v9row_range HO.out));have HNL:=hid (show(Tryz.prog.info? 125).map (·.size)=some opl.length by rw[hol];kernel_rfl);clear hol;have cA:=λd os=>Calls.regrown_of (refahead_any ⟨gt,gr⟩ ⟨n',dA',dn',dc',ut,ur,oA,on,oc⟩ ⟨⟨nt,nr⟩,ni⟩ k (grow (redrawn W d) os));have cD:=λd os=>Calls.regrown_of (refdots_any ⟨gt,gr⟩ ⟨n',dA',dn',dc',ut,ur,oA,on,oc⟩ dA dc dots S (grow (redrawn W d) os) hdl (hD.agr (Agr.below (hBW0.trans ((below_regrown W d os).mono hBW0.size)))));have cB:=λd os=>Calls.regrown_of (HBA.out (grow (redrawn W d) os));simp only[gxV,idV] at cA cD;clear hBW0 hD hE HBA hn hdl hel HG HO HJ;cases h0:aheadB ⟨gt,gr⟩ ⟨⟨nt,nr⟩,ni⟩ k with
 |false=>
  rw[h0] at cA;obtain rfl:ans= -1:=by rw[HANS.out];exact v9refV_no (by rw[HK.out,h0];simp)
  exact absurd rfl HVT.out
 | true=>
  rw[h0] at cA;have H0:=hid h0;clear h0;cases h1:dotsB ⟨gt,gr⟩ dots with
  |false=>
   rw[h1] at cD;obtain rfl:ans= -1:=by rw[HANS.out];exact v9refV_no (by rw[HK.out,H0.out,h1];simp)
   exact absurd rfl HVT.out
  | true=>
   rw[h1] at cD;have H1:=hid h1;clear h1;cases bb with
   |false=>
    obtain rfl:ans= -1:=by rw[HANS.out];exact v9refV_no (by rw[<-HBB.out];simp)
    exact absurd rfl HVT.out
   |true=>
    obtain rfl:ans=0:=by rw[HANS.out,v9refV_yes (by rw[<-HBB.out,HK.out,H0.out,H1.out];simp),HMO.out]
    refine wp_plain_quiet_below ?_
    repeat(any_goals(first|(refine quiet_load_mid rfl _ _ rfl (w.heap.size+1) 0 rfl opl _ HRR.out Tryz.underlying125 rfl HNL.out ?_;rw[HOL.out])|go_big_quiet_step (first|with_reducible exact cA _ _|with_reducible exact cD _ _|with_reducible exact cB _ _)|quiet_step (first|with_reducible exact cA _ _|with_reducible exact cD _ _|with_reducible exact cB _ _)))
    refine qz λwq hBq=> ?_;go_wp2;go_ret;exact⟨rfl,HBW.out.trans (hBq.mono HBW.out.size)⟩
theorem vop_4 (gt gr:Int) (n':Int) (dA':Option Addr) (dn' dc':Nat) (ut ur:Int) (oA:Option Addr) (on oc:Nat) (k:Nat) (nt nr ni pt pr pi:Int) (name:ByteArray) (dir:Bool) (dots:List Gst) (at_ ar ai et er ei:Int) (text:ByteArray) (elems:List Gid) (dA:Option Addr) (dc:Nat) (eA:Option Addr) (ec:Nat) (S:Nat->Prop) (w:World) (hn:name.size<=9223372036854775807) (hdl:dots.length<=9223372036854775807) (hel:elems.length<=9223372036854775807) (hD:StsS w S dA dots) (hE:IdsS w S eA elems) (hvt:(kindB ⟨gt,gr⟩ (⟨4,⟨⟨nt,nr⟩,ni⟩,⟨⟨pt,pr⟩,pi⟩,name,dir,dots,⟨⟨at_,ar⟩,ai⟩,⟨⟨et,er⟩,ei⟩,text,elems⟩:Gop) k && bareB (⟨4,⟨⟨nt,nr⟩,ni⟩,⟨⟨pt,pr⟩,pi⟩,name,dir,dots,⟨⟨at_,ar⟩,ai⟩,⟨⟨et,er⟩,ei⟩,text,elems⟩:Gop))=true):
  Calls Tryz.prog 104 #[.agg #[gt,gr,n',.slice dA' dn' dc',ut,ur,.slice oA on oc],.agg #[(4:Int),nt,nr,ni,pt,pr,pi,name,dir,.slice dA dots.length dc,at_,ar,ai,et,er,ei,text,.slice eA elems.length ec],.int .i64 k] w λe w'=>e= .returned (.int .i64 (v9refV ⟨gt,gr⟩ (⟨4,⟨⟨nt,nr⟩,ni⟩,⟨⟨pt,pr⟩,pi⟩,name,dir,dots,⟨⟨at_,ar⟩,ai⟩,⟨⟨et,er⟩,ei⟩,text,elems⟩:Gop) k))∧Below w.heap.size w w':=by
 obtain⟨ans,hans⟩:∃v,v=v9refV ⟨gt,gr⟩ (⟨4,⟨⟨nt,nr⟩,ni⟩,⟨⟨pt,pr⟩,pi⟩,name,dir,dots,⟨⟨at_,ar⟩,ai⟩,⟨⟨et,er⟩,ei⟩,text,elems⟩:Gop) k:=⟨_,rfl⟩;rw[<-hans];have HVT:=hid (show ans≠ -1 from by rw[hans,v9refV_yes hvt];omega);have hbt:bareB (⟨4,⟨⟨nt,nr⟩,ni⟩,⟨⟨pt,pr⟩,pi⟩,name,dir,dots,⟨⟨at_,ar⟩,ai⟩,⟨⟨et,er⟩,ei⟩,text,elems⟩:Gop)=true:=(Bool.and_eq_true_iff.1 hvt).2;obtain⟨bb,hbb⟩:∃b,b=bareB (⟨4,⟨⟨nt,nr⟩,ni⟩,⟨⟨pt,pr⟩,pi⟩,name,dir,dots,⟨⟨at_,ar⟩,ai⟩,⟨⟨et,er⟩,ei⟩,text,elems⟩:Gop):=⟨_,rfl⟩;have HBB:=hid hbb
 have HBA:=hid (show ∀W,Calls Tryz.prog 160 #[.agg #[(4:Int),nt,nr,ni,pt,pr,pi,name,dir,.slice dA dots.length dc,at_,ar,ai,et,er,ei,text,.slice eA elems.length ec],false,false,false,false,true] W λe w'=>e= .returned (.bool bb)∧Below W.heap.size W w' from λW=>by
  refine(vbare_4 4 nt nr ni pt pr pi name dir dA dots.length dc at_ ar ai et er ei text eA elems.length ec W (Eq.trans (b:=bareB (⟨4,⟨⟨nt,nr⟩,ni⟩,⟨⟨pt,pr⟩,pi⟩,name,dir,dots,⟨⟨at_,ar⟩,ai⟩,⟨⟨et,er⟩,ei⟩,text,elems⟩:Gop)) (by simp[bareB,Bool.and_assoc]) hbt)).mono ?_;rintro e w' ⟨rfl,hB⟩;refine⟨?_,hB⟩;congr 2;rw[hbb]
  simp[bareB,Bool.and_assoc])
 have HK:Hid (kindB ⟨gt,gr⟩ (⟨4,⟨⟨nt,nr⟩,ni⟩,⟨⟨pt,pr⟩,pi⟩,name,dir,dots,⟨⟨at_,ar⟩,ai⟩,⟨⟨et,er⟩,ei⟩,text,elems⟩:Gop) k=(aheadB ⟨gt,gr⟩ ⟨⟨nt,nr⟩,ni⟩ k && elemsB ⟨gt,gr⟩ elems k)):=hid (by simp[kindB]);have HMO:Hid ((moreOf (⟨4,⟨⟨nt,nr⟩,ni⟩,⟨⟨pt,pr⟩,pi⟩,name,dir,dots,⟨⟨at_,ar⟩,ai⟩,⟨⟨et,er⟩,ei⟩,text,elems⟩:Gop):Int)=0):=hid (by simp[moreOf]);have HANS:=hid hans;clear hvt hbt hans hbb;go_enter Tryz.func104,Tryz.ntmps104;go_upto_region 2 with fail;generalize hW:(((w.alloc (.cells #[gt,gr,n',.slice dA' dn' dc',ut,ur,.slice oA on oc] 45)).alloc (.cells #[(4:Int),nt,nr,ni,pt,pr,pi,name,dir,.slice dA dots.length dc,at_,ar,ai,et,er,ei,text,.slice eA elems.length ec] 125)).alloc (.cells #[gt,gr,.int .i64 k] 108))=W;have HG:=hid (show W.heap[w.heap.size]? =some (.cells #[gt,gr,n',.slice dA' dn' dc',ut,ur,.slice oA on oc] 45 (0,0)) by rw[<-hW];exact(Below.heap_alloc _ _ _ (by simp;omega)).trans ((Below.heap_alloc _ _ _ (by simp)).trans (heap_alloc_new _ _)));have HO:=hid (show W.heap[w.heap.size+1]? =some (.cells #[(4:Int),nt,nr,ni,pt,pr,pi,name,dir,.slice dA dots.length dc,at_,ar,ai,et,er,ei,text,.slice eA elems.length ec] 125 (0,0)) by rw[<-hW];exact(Below.heap_alloc _ _ _ (by simp)).trans (heap_alloc_new' _ _ (by simp)));have HJ:=hid (show W.heap[w.heap.size+2]? =some (.cells #[gt,gr,.int .i64 k] 108 (0,0)) by rw[<-hW];exact heap_alloc_new' _ _ (by simp))
 have HBW:=hid (show Below w.heap.size w W by rw[<-hW];exact(((Below.refl _ _).alloc (Nat.le_refl _) _).alloc (by simp) _).alloc (by simp;omega) _);clear hW;have r0:=cw0 HO.out;go_upto_region 17 with fail;clear r0;have hBW0:=HBW.out;have x1:=rg1 HO.out;have x2:=rg2 HO.out;have x3:=rg3 HO.out;have x17:=rg17 HO.out;have y0:=rg0 HG.out;have y1:=rg1 HG.out;have y2:=rg2 HG.out;have y3:=rg3 HG.out;have y4:=rg4 HG.out;have y5:=rg5 HG.out;have y6:=rg6 HG.out;obtain⟨opl,hol⟩:∃l:List Value,l=[.int .i64 4,.int .i64 nt,.int .i64 nr,.int .i64 ni,.int .i64 pt,.int .i64 pr,.int .i64 pi,.string name,.bool dir,.slice dA dots.length dc,.int .i64 at_,.int .i64 ar,.int .i64 ai,.int .i64 et,.int .i64 er,.int .i64 ei,.string text,.slice eA elems.length ec]:=⟨_,rfl⟩;have HOL:=hid hol;have HRR:=hid (range_regrown (show W.rangeAt (w.heap.size+1) 0 opl by rw[hol];exact v9row_range HO.out));have HNL:=hid (show(Tryz.prog.info? 125).map (·.size)=some opl.length by rw[hol];kernel_rfl);clear hol;have cA:=λd os=>Calls.regrown_of (refahead_any ⟨gt,gr⟩ ⟨n',dA',dn',dc',ut,ur,oA,on,oc⟩ ⟨⟨nt,nr⟩,ni⟩ k (grow (redrawn W d) os));have cE:=λd os=>Calls.regrown_of (refelems_any ⟨gt,gr⟩ ⟨n',dA',dn',dc',ut,ur,oA,on,oc⟩ k eA ec elems S (grow (redrawn W d) os) hel (hE.agr (Agr.below (hBW0.trans ((below_regrown W d os).mono hBW0.size)))));have cB:=λd os=>Calls.regrown_of (HBA.out (grow (redrawn W d) os));simp only[gxV,idV] at cA cE;clear hBW0 hD hE HBA hn hdl hel HG HO HJ;cases h0:aheadB ⟨gt,gr⟩ ⟨⟨nt,nr⟩,ni⟩ k with
 |false=>
  rw[h0] at cA;obtain rfl:ans= -1:=by rw[HANS.out];exact v9refV_no (by rw[HK.out,h0];simp)
  exact absurd rfl HVT.out
 | true=>
  rw[h0] at cA;have H0:=hid h0;clear h0;cases h1:elemsB ⟨gt,gr⟩ elems k with
  |false=>
   rw[h1] at cE;obtain rfl:ans= -1:=by rw[HANS.out];exact v9refV_no (by rw[HK.out,H0.out,h1];simp)
   exact absurd rfl HVT.out
  | true=>
   rw[h1] at cE;have H1:=hid h1;clear h1;cases bb with
   |false=>
    obtain rfl:ans= -1:=by rw[HANS.out];exact v9refV_no (by rw[<-HBB.out];simp)
    exact absurd rfl HVT.out
   |true=>
    obtain rfl:ans=0:=by rw[HANS.out,v9refV_yes (by rw[<-HBB.out,HK.out,H0.out,H1.out];simp),HMO.out]
    refine wp_plain_quiet_below ?_
    repeat(any_goals(first|(refine quiet_load_mid rfl _ _ rfl (w.heap.size+1) 0 rfl opl _ HRR.out Tryz.underlying125 rfl HNL.out ?_;rw[HOL.out])|go_big_quiet_step (first|with_reducible exact cA _ _|with_reducible exact cE _ _|with_reducible exact cB _ _)|quiet_step (first|with_reducible exact cA _ _|with_reducible exact cE _ _|with_reducible exact cB _ _)))
    refine qz λwq hBq=> ?_;go_wp2;go_ret;exact⟨rfl,HBW.out.trans (hBq.mono HBW.out.size)⟩
theorem vop_3s (gt gr:Int) (n':Int) (dA':Option Addr) (dn' dc':Nat) (ut ur:Int) (oA:Option Addr) (on oc:Nat) (k:Nat) (nt nr ni pt pr pi:Int) (name:ByteArray) (dir:Bool) (dots:List Gst) (at_ ar ai et er ei:Int) (text:ByteArray) (elems:List Gid) (dA:Option Addr) (dc:Nat) (eA:Option Addr) (ec:Nat) (S:Nat->Prop) (w:World) (hn:name.size<=9223372036854775807) (hdl:dots.length<=9223372036854775807) (hel:elems.length<=9223372036854775807) (hD:StsS w S dA dots) (hE:IdsS w S eA elems) (htx:text.size<=1000000) (m:Nat) (hcnt:cnt text.data.toList=some m) (hvt:(kindB ⟨gt,gr⟩ (⟨3,⟨⟨nt,nr⟩,ni⟩,⟨⟨pt,pr⟩,pi⟩,name,dir,dots,⟨⟨at_,ar⟩,ai⟩,⟨⟨et,er⟩,ei⟩,text,elems⟩:Gop) k && bareB (⟨3,⟨⟨nt,nr⟩,ni⟩,⟨⟨pt,pr⟩,pi⟩,name,dir,dots,⟨⟨at_,ar⟩,ai⟩,⟨⟨et,er⟩,ei⟩,text,elems⟩:Gop))=true):
  Calls Tryz.prog 104 #[.agg #[gt,gr,n',.slice dA' dn' dc',ut,ur,.slice oA on oc],.agg #[(3:Int),nt,nr,ni,pt,pr,pi,name,dir,.slice dA dots.length dc,at_,ar,ai,et,er,ei,text,.slice eA elems.length ec],.int .i64 k] w λe w'=>e= .returned (.int .i64 (v9refV ⟨gt,gr⟩ (⟨3,⟨⟨nt,nr⟩,ni⟩,⟨⟨pt,pr⟩,pi⟩,name,dir,dots,⟨⟨at_,ar⟩,ai⟩,⟨⟨et,er⟩,ei⟩,text,elems⟩:Gop) k))∧Below w.heap.size w w':=by
 obtain⟨ans,hans⟩:∃v,v=v9refV ⟨gt,gr⟩ (⟨3,⟨⟨nt,nr⟩,ni⟩,⟨⟨pt,pr⟩,pi⟩,name,dir,dots,⟨⟨at_,ar⟩,ai⟩,⟨⟨et,er⟩,ei⟩,text,elems⟩:Gop) k:=⟨_,rfl⟩;rw[<-hans];have HVT:=hid (show ans≠ -1 from by rw[hans,v9refV_yes hvt];omega);have hbt:bareB (⟨3,⟨⟨nt,nr⟩,ni⟩,⟨⟨pt,pr⟩,pi⟩,name,dir,dots,⟨⟨at_,ar⟩,ai⟩,⟨⟨et,er⟩,ei⟩,text,elems⟩:Gop)=true:=(Bool.and_eq_true_iff.1 hvt).2;obtain⟨bb,hbb⟩:∃b,b=bareB (⟨3,⟨⟨nt,nr⟩,ni⟩,⟨⟨pt,pr⟩,pi⟩,name,dir,dots,⟨⟨at_,ar⟩,ai⟩,⟨⟨et,er⟩,ei⟩,text,elems⟩:Gop):=⟨_,rfl⟩;have HBB:=hid hbb
 have HBA:=hid (show ∀W,Calls Tryz.prog 160 #[.agg #[(3:Int),nt,nr,ni,pt,pr,pi,name,dir,.slice dA dots.length dc,at_,ar,ai,et,er,ei,text,.slice eA elems.length ec],false,false,false,true,false] W λe w'=>e= .returned (.bool bb)∧Below W.heap.size W w' from λW=>by
  refine(vbare_3 3 nt nr ni pt pr pi name dir dA dots.length dc at_ ar ai et er ei text eA elems.length ec W (Eq.trans (b:=bareB (⟨3,⟨⟨nt,nr⟩,ni⟩,⟨⟨pt,pr⟩,pi⟩,name,dir,dots,⟨⟨at_,ar⟩,ai⟩,⟨⟨et,er⟩,ei⟩,text,elems⟩:Gop)) (by simp[bareB,Bool.and_assoc]) hbt)).mono ?_;rintro e w' ⟨rfl,hB⟩;refine⟨?_,hB⟩;congr 2;rw[hbb]
  simp[bareB,Bool.and_assoc])
 have HK:Hid (kindB ⟨gt,gr⟩ (⟨3,⟨⟨nt,nr⟩,ni⟩,⟨⟨pt,pr⟩,pi⟩,name,dir,dots,⟨⟨at_,ar⟩,ai⟩,⟨⟨et,er⟩,ei⟩,text,elems⟩:Gop) k=(aheadB ⟨gt,gr⟩ ⟨⟨nt,nr⟩,ni⟩ k && parentB ⟨gt,gr⟩ ⟨⟨at_,ar⟩,ai⟩ k && Gid.eqb ⟨⟨et,er⟩,ei⟩ ⟨⟨gt,gr⟩,(k:Int)⟩ && (decide (1<=m) && decide (m<=2000)))):=hid (by simp[kindB,textB,cnt_valid,hcnt,cnt_count hcnt]);have HMO:Hid ((moreOf (⟨3,⟨⟨nt,nr⟩,ni⟩,⟨⟨pt,pr⟩,pi⟩,name,dir,dots,⟨⟨at_,ar⟩,ai⟩,⟨⟨et,er⟩,ei⟩,text,elems⟩:Gop):Int)=m):=hid (by simp[moreOf,cnt_count hcnt]);have HLe:Hid (∀w,Calls Tryz.prog 163 #[text] w λe w'=>e= .returned (.tuple #[.int .i64 m,(0:Int)])∧Below w.heap.size w w'):=hid (λw=>reflen_ok text m w htx hcnt);have HANS:=hid hans;clear hvt hbt hans hbb hcnt htx;go_enter Tryz.func104,Tryz.ntmps104;go_upto_region 2 with fail;generalize hW:(((w.alloc (.cells #[gt,gr,n',.slice dA' dn' dc',ut,ur,.slice oA on oc] 45)).alloc (.cells #[(3:Int),nt,nr,ni,pt,pr,pi,name,dir,.slice dA dots.length dc,at_,ar,ai,et,er,ei,text,.slice eA elems.length ec] 125)).alloc (.cells #[gt,gr,.int .i64 k] 108))=V;have HGV:=hid (show V.heap[w.heap.size]? =some (.cells #[gt,gr,n',.slice dA' dn' dc',ut,ur,.slice oA on oc] 45 (0,0)) by rw[<-hW];exact(Below.heap_alloc _ _ _ (by simp;omega)).trans ((Below.heap_alloc _ _ _ (by simp)).trans (heap_alloc_new _ _)))
 have HOV:=hid (show V.heap[w.heap.size+1]? =some (.cells #[(3:Int),nt,nr,ni,pt,pr,pi,name,dir,.slice dA dots.length dc,at_,ar,ai,et,er,ei,text,.slice eA elems.length ec] 125 (0,0)) by rw[<-hW];exact(Below.heap_alloc _ _ _ (by simp)).trans (heap_alloc_new' _ _ (by simp)));have HJV:=hid (show V.heap[w.heap.size+2]? =some (.cells #[gt,gr,.int .i64 k] 108 (0,0)) by rw[<-hW];exact heap_alloc_new' _ _ (by simp));have HBV:=hid (show Below w.heap.size w V by rw[<-hW];exact(((Below.refl _ _).alloc (Nat.le_refl _) _).alloc (by simp) _).alloc (by simp;omega) _);clear hW;have r0:=cw0 HOV.out;have r16:=cw16 HOV.out;go_upto_region 14 with(go_at_call 163;refine(HLe.out _).mono ?_;rintro e W ⟨rfl,hB2⟩);have HG:=hid ((hB2.block _ (lt_of_block HGV.out)).trans HGV.out);have HO:=hid ((hB2.block _ (lt_of_block HOV.out)).trans HOV.out);have HJ:=hid ((hB2.block _ (lt_of_block HJV.out)).trans HJV.out);have HBW:=hid (HBV.out.trans (hB2.mono HBV.out.size));clear r0 r16 hB2 HGV HOV HJV HBV;have hBW0:=HBW.out;have x1:=rg1 HO.out;have x2:=rg2 HO.out;have x3:=rg3 HO.out;have x10:=rg10 HO.out;have x11:=rg11 HO.out;have x12:=rg12 HO.out;have x13:=rg13 HO.out;have x14:=rg14 HO.out;have x15:=rg15 HO.out;have y0:=rg0 HG.out;have y1:=rg1 HG.out;have y2:=rg2 HG.out;have y3:=rg3 HG.out;have y4:=rg4 HG.out;have y5:=rg5 HG.out;have y6:=rg6 HG.out;have z0:=rg0 HJ.out;have z1:=rg1 HJ.out;have z2:=rg2 HJ.out
 obtain⟨opl,hol⟩:∃l:List Value,l=[.int .i64 3,.int .i64 nt,.int .i64 nr,.int .i64 ni,.int .i64 pt,.int .i64 pr,.int .i64 pi,.string name,.bool dir,.slice dA dots.length dc,.int .i64 at_,.int .i64 ar,.int .i64 ai,.int .i64 et,.int .i64 er,.int .i64 ei,.string text,.slice eA elems.length ec]:=⟨_,rfl⟩;have HOL:=hid hol;have HRR:=hid (range_regrown (show W.rangeAt (w.heap.size+1) 0 opl by rw[hol];exact v9row_range HO.out));have HNL:=hid (show(Tryz.prog.info? 125).map (·.size)=some opl.length by rw[hol];kernel_rfl);clear hol;have cA:=λd os=>Calls.regrown_of (refahead_any ⟨gt,gr⟩ ⟨n',dA',dn',dc',ut,ur,oA,on,oc⟩ ⟨⟨nt,nr⟩,ni⟩ k (grow (redrawn W d) os));have cQ:=λd os=>Calls.regrown_of (refparent_any ⟨gt,gr⟩ ⟨n',dA',dn',dc',ut,ur,oA,on,oc⟩ ⟨⟨at_,ar⟩,ai⟩ k (grow (redrawn W d) os));have cB:=λd os=>Calls.regrown_of (HBA.out (grow (redrawn W d) os));simp only[gxV,idV] at cA cQ;clear hBW0 hD hE HBA hn hdl hel HG HO HJ;cases h0:aheadB ⟨gt,gr⟩ ⟨⟨nt,nr⟩,ni⟩ k with
 |false=>
  rw[h0] at cA;obtain rfl:ans= -1:=by rw[HANS.out];exact v9refV_no (by rw[HK.out,h0];simp)
  exact absurd rfl HVT.out
 | true=>
  rw[h0] at cA;have H0:=hid h0;clear h0;cases h1:parentB ⟨gt,gr⟩ ⟨⟨at_,ar⟩,ai⟩ k with
  |false=>
   rw[h1] at cQ;obtain rfl:ans= -1:=by rw[HANS.out];exact v9refV_no (by rw[HK.out,H0.out,h1];simp)
   exact absurd rfl HVT.out
  | true=>
   rw[h1] at cQ;have H1:=hid h1;clear h1;cases h2:Gid.eqb ⟨⟨et,er⟩,ei⟩ ⟨⟨gt,gr⟩,(k:Int)⟩ with
   |false=>
    have he:=eq_id et er ei gt gr k false h2;obtain rfl:ans= -1:=by rw[HANS.out];exact v9refV_no (by rw[HK.out,H0.out,H1.out,h2];simp)
    exact absurd rfl HVT.out
   | true=>
    have he:=eq_id et er ei gt gr k true h2;have H2:=hid h2;clear h2;by_cases m1:1<=m
    rotate_left
    ·obtain rfl:m=0:=by omega
     obtain rfl:ans= -1:=by rw[HANS.out];exact v9refV_no (by rw[HK.out,H0.out,H1.out,H2.out];simp)
     exact absurd rfl HVT.out
    have b1:decide ((m:Int)≥1)=true:=by rw[decide_eq_true_eq];omega
    have b2:(m:Int)≥1:=by omega
    have b4:(1:Int)<=(m:Int):=by omega
    by_cases m2:m<=2000
    rotate_left
    ·have b3:¬(m:Int)<=2000:=by omega
     obtain rfl:ans= -1:=by rw[HANS.out];exact v9refV_no (by rw[HK.out,H0.out,H1.out,H2.out];simp[m2])
     exact absurd rfl HVT.out
    have b3:(m:Int)<=2000:=by omega
    have HM1:=hid m1;have HM2:=hid m2;clear m1 m2;cases bb with
    |false=>
     obtain rfl:ans= -1:=by rw[HANS.out];exact v9refV_no (by rw[<-HBB.out];simp)
     exact absurd rfl HVT.out
    |true=>
     obtain rfl:ans=m:=by rw[HANS.out,v9refV_yes (by rw[<-HBB.out,HK.out,H0.out,H1.out,H2.out];simp[HM1.out,HM2.out]),HMO.out]
     refine wp_plain_quiet_below ?_
     repeat(any_goals(first|(refine quiet_load_mid rfl _ _ rfl (w.heap.size+1) 0 rfl opl _ HRR.out Tryz.underlying125 rfl HNL.out ?_;rw[HOL.out])|go_big_quiet_step (first|with_reducible exact cA _ _|with_reducible exact cQ _ _|with_reducible exact cB _ _)|quiet_step (first|with_reducible exact cA _ _|with_reducible exact cQ _ _|with_reducible exact cB _ _)))
     refine qz λwq hBq=> ?_;go_wp2;go_ret;exact⟨rfl,HBW.out.trans (hBq.mono HBW.out.size)⟩
end
end Go.Proofs.YtkhmicndehlneaaGreatDoor
