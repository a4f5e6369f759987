/- Part 15 of the walks and plain laws that this claim uses, joined. Conditions: as each theorem states. -/
import Derived.DeepKeys4
import Derived.Maps.OwnSet
import Derived.OrdersHeld
import Derived.Tactics
import Derived.Test.YtkhmicndehlneaaGreatDoorYhn
namespace Go.Proofs.YtkhmicndehlneaaGreatDoor
set_option maxRecDepth 100000
set_option maxHeartbeats 16000000
set_option linter.unusedVariables false
section
open Go.RowKit Go.Lib Go.Sort
attribute [local go_sem ↓] Go.wp_at_zero Go.wp_at_succ
def fW (g:Gst) (o:Gop) (k:Nat):Int:=if (de g o k && cr o)=true then (eR o:Int) else -1
theorem dN {g:Gst} {o:Gop} {k:Nat} (h:(de g o k && cr o)=false):fW g o k= -1:=by unfold fW;rw[h];rfl
theorem fo {g:Gst} {o:Gop} {k:Nat} (h:(de g o k && cr o)=true):fW g o k=(eR o:Int):=by unfold fW;rw[h];rfl
theorem iz {W:World} {b:Nat} {T:TypeId} {cs:List Value} (h:W.heap[b]? =some (.cells cs.toArray T (0,0))):W.rangeAt b 0 cs:=λj v hv=>by
 rw[bN,aD _ _ _ _ _ _ h]
 simpa using hv
theorem vop_0 (gt gr:Int) (n':Int) (dA':Option Addr) (dn' dc':Nat) (ut ur:Int) (oA:Option Addr) (on oc:Nat) (k:Nat) (nt nr ni pt pr pi:Int) (name:ByteArray) (dir:Bool) (dots:List Gst) (at_ ar ai et er ei:Int) (text:ByteArray) (elems:List Gid) (dA:Option Addr) (dc:Nat) (eA:Option Addr) (ec:Nat) (S:Nat->Prop) (w:World) (hn:name.size<=9223372036854775807) (hdl:dots.length<=9223372036854775807) (hel:elems.length<=9223372036854775807) (hD:StsS w S dA dots) (hE:IdsS w S eA elems) (hvt:(de ⟨gt,gr⟩ (⟨0,⟨⟨nt,nr⟩,ni⟩,⟨⟨pt,pr⟩,pi⟩,name,dir,dots,⟨⟨at_,ar⟩,ai⟩,⟨⟨et,er⟩,ei⟩,text,elems⟩:Gop) k && cr (⟨0,⟨⟨nt,nr⟩,ni⟩,⟨⟨pt,pr⟩,pi⟩,name,dir,dots,⟨⟨at_,ar⟩,ai⟩,⟨⟨et,er⟩,ei⟩,text,elems⟩:Gop))=true):
  Calls Tryz.prog 104 #[.agg #[gt,gr,n',.slice dA' dn' dc',ut,ur,.slice oA on oc],.agg #[(0:Int),nt,nr,ni,pt,pr,pi,name,dir,.slice dA dots.length dc,at_,ar,ai,et,er,ei,text,.slice eA elems.length ec],.int .i64 k] w λe w'=>e= .returned (.int .i64 (fW ⟨gt,gr⟩ (⟨0,⟨⟨nt,nr⟩,ni⟩,⟨⟨pt,pr⟩,pi⟩,name,dir,dots,⟨⟨at_,ar⟩,ai⟩,⟨⟨et,er⟩,ei⟩,text,elems⟩:Gop) k))∧Below w.heap.size w w':=by
 obtain⟨ans,hans⟩:∃v,v=fW ⟨gt,gr⟩ (⟨0,⟨⟨nt,nr⟩,ni⟩,⟨⟨pt,pr⟩,pi⟩,name,dir,dots,⟨⟨at_,ar⟩,ai⟩,⟨⟨et,er⟩,ei⟩,text,elems⟩:Gop) k:=⟨_,rfl⟩;rw[<-hans];have HVT:=hid (show ans≠ -1 from by rw[hans,fo hvt];omega);have hbt:cr (⟨0,⟨⟨nt,nr⟩,ni⟩,⟨⟨pt,pr⟩,pi⟩,name,dir,dots,⟨⟨at_,ar⟩,ai⟩,⟨⟨et,er⟩,ei⟩,text,elems⟩:Gop)=true:=(eG.1 hvt).2;obtain⟨bb,hbb⟩:∃b,b=cr (⟨0,⟨⟨nt,nr⟩,ni⟩,⟨⟨pt,pr⟩,pi⟩,name,dir,dots,⟨⟨at_,ar⟩,ai⟩,⟨⟨et,er⟩,ei⟩,text,elems⟩:Gop):=⟨_,rfl⟩;have HBB:=hid hbb
 have HBA:=hid (show ∀W,Calls Tryz.prog 160 #[.agg #[(0:Int),nt,nr,ni,pt,pr,pi,name,dir,.slice dA dots.length dc,at_,ar,ai,et,er,ei,text,.slice eA elems.length ec],true,true,false,false,false] W λe w'=>e= .returned (.bool bb)∧Below W.heap.size W w' from λW=>by
  refine(vbare_0 0 nt nr ni pt pr pi name dir dA dots.length dc at_ ar ai et er ei text eA elems.length ec W (Eq.trans (b:=cr (⟨0,⟨⟨nt,nr⟩,ni⟩,⟨⟨pt,pr⟩,pi⟩,name,dir,dots,⟨⟨at_,ar⟩,ai⟩,⟨⟨et,er⟩,ei⟩,text,elems⟩:Gop)) (by simp[cr,ff]) hbt)).mono ?_;rintro e w' ⟨rfl,hB⟩;refine⟨?_,hB⟩;congr 2;rw[hbb]
  simp[cr,ff])
 have HK:Hid (de ⟨gt,gr⟩ (⟨0,⟨⟨nt,nr⟩,ni⟩,⟨⟨pt,pr⟩,pi⟩,name,dir,dots,⟨⟨at_,ar⟩,ai⟩,⟨⟨et,er⟩,ei⟩,text,elems⟩:Gop) k=(Gid.eqb ⟨⟨nt,nr⟩,ni⟩ ⟨⟨gt,gr⟩,(k:Int)⟩ && du ⟨gt,gr⟩ ⟨⟨pt,pr⟩,pi⟩ k && ek name)):=hid (by simp[de]);have HMO:Hid ((eR (⟨0,⟨⟨nt,nr⟩,ni⟩,⟨⟨pt,pr⟩,pi⟩,name,dir,dots,⟨⟨at_,ar⟩,ai⟩,⟨⟨et,er⟩,ei⟩,text,elems⟩:Gop):Int)=1):=hid (by simp[eR]);have HANS:=hid hans;clear hvt hbt hans hbb;go_enter Tryz.func104,Tryz.ntmps104;go_upto_region 2 with fail;generalize hW:(((w.alloc (.cells #[gt,gr,n',.slice dA' dn' dc',ut,ur,.slice oA on oc] 45)).alloc (.cells #[(0:Int),nt,nr,ni,pt,pr,pi,name,dir,.slice dA dots.length dc,at_,ar,ai,et,er,ei,text,.slice eA elems.length ec] 125)).alloc (.cells #[gt,gr,.int .i64 k] 108))=W;have HG:=hid (show W.heap[w.heap.size]? =some (.cells #[gt,gr,n',.slice dA' dn' dc',ut,ur,.slice oA on oc] 45 (0,0)) by rw[<-hW];exact(ax _ _ _ (by simp;omega)).trans ((ax _ _ _ (by simp)).trans (am _ _)));have HO:=hid (show W.heap[w.heap.size+1]? =some (.cells #[(0:Int),nt,nr,ni,pt,pr,pi,name,dir,.slice dA dots.length dc,at_,ar,ai,et,er,ei,text,.slice eA elems.length ec] 125 (0,0)) by rw[<-hW];exact(ax _ _ _ (by simp)).trans (cJ _ _ (by simp)));have HJ:=hid (show W.heap[w.heap.size+2]? =some (.cells #[gt,gr,.int .i64 k] 108 (0,0)) by rw[<-hW];exact cJ _ _ (by simp))
 have HBW:=hid (show Below w.heap.size w W by rw[<-hW];exact(((ag _ _).alloc (aa _) _).alloc (by simp) _).alloc (by simp;omega) _);clear hW;have r0:=cw0 HO.out;go_upto_region 4 with fail;clear r0;have hBW0:=HBW.out;have x1:=rg1 HO.out;have x2:=rg2 HO.out;have x3:=rg3 HO.out;have x4:=rg4 HO.out;have x5:=rg5 HO.out;have x6:=rg6 HO.out;have x7:=rg7 HO.out;have y0:=rg0 HG.out;have y1:=rg1 HG.out;have y2:=rg2 HG.out;have y3:=rg3 HG.out;have y4:=rg4 HG.out;have y5:=rg5 HG.out;have y6:=rg6 HG.out;have z0:=rg0 HJ.out;have z1:=rg1 HJ.out;have z2:=rg2 HJ.out;obtain⟨opl,hol⟩:∃l:List Value,l=[.int .i64 0,.int .i64 nt,.int .i64 nr,.int .i64 ni,.int .i64 pt,.int .i64 pr,.int .i64 pi,.string name,.bool dir,.slice dA dots.length dc,.int .i64 at_,.int .i64 ar,.int .i64 ai,.int .i64 et,.int .i64 er,.int .i64 ei,.string text,.slice eA elems.length ec]:=⟨_,rfl⟩;have HOL:=hid hol;have HRR:=hid (eT (show W.rangeAt (w.heap.size+1) 0 opl by rw[hol];exact iz HO.out));have HNL:=hid (show(Tryz.prog.info? 125).map (·.size)=some opl.length by rw[hol];kernel_rfl);clear hol;have cP:=λd os=>ay (jP ⟨gt,gr⟩ ⟨n',dA',dn',dc',ut,ur,oA,on,oc⟩ ⟨⟨pt,pr⟩,pi⟩ k (grow (redrawn W d) os));have cN:=λd os=>Calls.regrown_same (jI name (grow (redrawn W d) os) hn);have cB:=λd os=>ay (HBA.out (grow (redrawn W d) os));simp only[gxV,idV] at cP;clear hBW0 hD hE HBA hn hdl hel HG HO HJ;cases h0:Gid.eqb ⟨⟨nt,nr⟩,ni⟩ ⟨⟨gt,gr⟩,(k:Int)⟩ with
 |false=>
  have he:=eJ nt nr ni gt gr k false h0;obtain rfl:ans= -1:=by rw[HANS.out];exact dN (by rw[HK.out,h0];simp)
  exact absurd rfl HVT.out
 | true=>
  have he:=eJ nt nr ni gt gr k true h0;have H0:=hid h0;clear h0;cases h1:du ⟨gt,gr⟩ ⟨⟨pt,pr⟩,pi⟩ k with
  |false=>
   rw[h1] at cP;obtain rfl:ans= -1:=by rw[HANS.out];exact dN (by rw[HK.out,H0.out,h1];simp)
   exact absurd rfl HVT.out
  | true=>
   rw[h1] at cP;have H1:=hid h1;clear h1;cases h2:ek name with
   |false=>
    rw[h2] at cN;obtain rfl:ans= -1:=by rw[HANS.out];exact dN (by rw[HK.out,H0.out,H1.out,h2];simp)
    exact absurd rfl HVT.out
   | true=>
    rw[h2] at cN;have H2:=hid h2;clear h2;cases bb with
    |false=>
     obtain rfl:ans= -1:=by rw[HANS.out];exact dN (by rw[<-HBB.out];simp)
     exact absurd rfl HVT.out
    |true=>
     obtain rfl:ans=1:=by rw[HANS.out,fo (by rw[<-HBB.out,HK.out,H0.out,H1.out,H2.out];simp),HMO.out]
     refine bF ?_
     repeat(any_goals(first|(refine eI rfl _ _ rfl (w.heap.size+1) 0 rfl opl _ HRR.out az rfl HNL.out ?_;rw[HOL.out])|go_big_quiet_step (first|with_reducible exact cP _ _|with_reducible exact cN _ _|with_reducible exact cB _ _)|quiet_step (first|with_reducible exact cP _ _|with_reducible exact cN _ _|with_reducible exact cB _ _)))
     refine qz λwq hBq=> ?_;go_wp2;go_ret;exact⟨rfl,HBW.out.trans (hBq.mono HBW.out.size)⟩
theorem vop_1 (gt gr:Int) (n':Int) (dA':Option Addr) (dn' dc':Nat) (ut ur:Int) (oA:Option Addr) (on oc:Nat) (k:Nat) (nt nr ni pt pr pi:Int) (name:ByteArray) (dir:Bool) (dots:List Gst) (at_ ar ai et er ei:Int) (text:ByteArray) (elems:List Gid) (dA:Option Addr) (dc:Nat) (eA:Option Addr) (ec:Nat) (S:Nat->Prop) (w:World) (hn:name.size<=9223372036854775807) (hdl:dots.length<=9223372036854775807) (hel:elems.length<=9223372036854775807) (hD:StsS w S dA dots) (hE:IdsS w S eA elems) (hvt:(de ⟨gt,gr⟩ (⟨1,⟨⟨nt,nr⟩,ni⟩,⟨⟨pt,pr⟩,pi⟩,name,dir,dots,⟨⟨at_,ar⟩,ai⟩,⟨⟨et,er⟩,ei⟩,text,elems⟩:Gop) k && cr (⟨1,⟨⟨nt,nr⟩,ni⟩,⟨⟨pt,pr⟩,pi⟩,name,dir,dots,⟨⟨at_,ar⟩,ai⟩,⟨⟨et,er⟩,ei⟩,text,elems⟩:Gop))=true):
  Calls Tryz.prog 104 #[.agg #[gt,gr,n',.slice dA' dn' dc',ut,ur,.slice oA on oc],.agg #[(1:Int),nt,nr,ni,pt,pr,pi,name,dir,.slice dA dots.length dc,at_,ar,ai,et,er,ei,text,.slice eA elems.length ec],.int .i64 k] w λe w'=>e= .returned (.int .i64 (fW ⟨gt,gr⟩ (⟨1,⟨⟨nt,nr⟩,ni⟩,⟨⟨pt,pr⟩,pi⟩,name,dir,dots,⟨⟨at_,ar⟩,ai⟩,⟨⟨et,er⟩,ei⟩,text,elems⟩:Gop) k))∧Below w.heap.size w w':=by
 obtain⟨ans,hans⟩:∃v,v=fW ⟨gt,gr⟩ (⟨1,⟨⟨nt,nr⟩,ni⟩,⟨⟨pt,pr⟩,pi⟩,name,dir,dots,⟨⟨at_,ar⟩,ai⟩,⟨⟨et,er⟩,ei⟩,text,elems⟩:Gop) k:=⟨_,rfl⟩;rw[<-hans];have HVT:=hid (show ans≠ -1 from by rw[hans,fo hvt];omega);have hbt:cr (⟨1,⟨⟨nt,nr⟩,ni⟩,⟨⟨pt,pr⟩,pi⟩,name,dir,dots,⟨⟨at_,ar⟩,ai⟩,⟨⟨et,er⟩,ei⟩,text,elems⟩:Gop)=true:=(eG.1 hvt).2;obtain⟨bb,hbb⟩:∃b,b=cr (⟨1,⟨⟨nt,nr⟩,ni⟩,⟨⟨pt,pr⟩,pi⟩,name,dir,dots,⟨⟨at_,ar⟩,ai⟩,⟨⟨et,er⟩,ei⟩,text,elems⟩:Gop):=⟨_,rfl⟩;have HBB:=hid hbb
 have HBA:=hid (show ∀W,Calls Tryz.prog 160 #[.agg #[(1:Int),nt,nr,ni,pt,pr,pi,name,dir,.slice dA dots.length dc,at_,ar,ai,et,er,ei,text,.slice eA elems.length ec],true,false,false,false,false] W λe w'=>e= .returned (.bool bb)∧Below W.heap.size W w' from λW=>by
  refine(vbare_1 1 nt nr ni pt pr pi name dir dA dots.length dc at_ ar ai et er ei text eA elems.length ec W (Eq.trans (b:=cr (⟨1,⟨⟨nt,nr⟩,ni⟩,⟨⟨pt,pr⟩,pi⟩,name,dir,dots,⟨⟨at_,ar⟩,ai⟩,⟨⟨et,er⟩,ei⟩,text,elems⟩:Gop)) (by simp[cr,ff]) hbt)).mono ?_;rintro e w' ⟨rfl,hB⟩;refine⟨?_,hB⟩;congr 2;rw[hbb]
  simp[cr,ff])
 have HK:Hid (de ⟨gt,gr⟩ (⟨1,⟨⟨nt,nr⟩,ni⟩,⟨⟨pt,pr⟩,pi⟩,name,dir,dots,⟨⟨at_,ar⟩,ai⟩,⟨⟨et,er⟩,ei⟩,text,elems⟩:Gop) k=(cL ⟨gt,gr⟩ ⟨⟨nt,nr⟩,ni⟩ k && du ⟨gt,gr⟩ ⟨⟨pt,pr⟩,pi⟩ k && ek name)):=hid (by simp[de]);have HMO:Hid ((eR (⟨1,⟨⟨nt,nr⟩,ni⟩,⟨⟨pt,pr⟩,pi⟩,name,dir,dots,⟨⟨at_,ar⟩,ai⟩,⟨⟨et,er⟩,ei⟩,text,elems⟩:Gop):Int)=0):=hid (by simp[eR]);have HANS:=hid hans;clear hvt hbt hans hbb;go_enter Tryz.func104,Tryz.ntmps104;go_upto_region 2 with fail;generalize hW:(((w.alloc (.cells #[gt,gr,n',.slice dA' dn' dc',ut,ur,.slice oA on oc] 45)).alloc (.cells #[(1:Int),nt,nr,ni,pt,pr,pi,name,dir,.slice dA dots.length dc,at_,ar,ai,et,er,ei,text,.slice eA elems.length ec] 125)).alloc (.cells #[gt,gr,.int .i64 k] 108))=W;have HG:=hid (show W.heap[w.heap.size]? =some (.cells #[gt,gr,n',.slice dA' dn' dc',ut,ur,.slice oA on oc] 45 (0,0)) by rw[<-hW];exact(ax _ _ _ (by simp;omega)).trans ((ax _ _ _ (by simp)).trans (am _ _)));have HO:=hid (show W.heap[w.heap.size+1]? =some (.cells #[(1:Int),nt,nr,ni,pt,pr,pi,name,dir,.slice dA dots.length dc,at_,ar,ai,et,er,ei,text,.slice eA elems.length ec] 125 (0,0)) by rw[<-hW];exact(ax _ _ _ (by simp)).trans (cJ _ _ (by simp)));have HJ:=hid (show W.heap[w.heap.size+2]? =some (.cells #[gt,gr,.int .i64 k] 108 (0,0)) by rw[<-hW];exact cJ _ _ (by simp))
 have HBW:=hid (show Below w.heap.size w W by rw[<-hW];exact(((ag _ _).alloc (aa _) _).alloc (by simp) _).alloc (by simp;omega) _);clear hW;have r0:=cw0 HO.out;go_upto_region 7 with fail;clear r0;have hBW0:=HBW.out;have x1:=rg1 HO.out;have x2:=rg2 HO.out;have x3:=rg3 HO.out;have x4:=rg4 HO.out;have x5:=rg5 HO.out;have x6:=rg6 HO.out;have x7:=rg7 HO.out;have y0:=rg0 HG.out;have y1:=rg1 HG.out;have y2:=rg2 HG.out;have y3:=rg3 HG.out;have y4:=rg4 HG.out;have y5:=rg5 HG.out;have y6:=rg6 HG.out;obtain⟨opl,hol⟩:∃l:List Value,l=[.int .i64 1,.int .i64 nt,.int .i64 nr,.int .i64 ni,.int .i64 pt,.int .i64 pr,.int .i64 pi,.string name,.bool dir,.slice dA dots.length dc,.int .i64 at_,.int .i64 ar,.int .i64 ai,.int .i64 et,.int .i64 er,.int .i64 ei,.string text,.slice eA elems.length ec]:=⟨_,rfl⟩;have HOL:=hid hol;have HRR:=hid (eT (show W.rangeAt (w.heap.size+1) 0 opl by rw[hol];exact iz HO.out));have HNL:=hid (show(Tryz.prog.info? 125).map (·.size)=some opl.length by rw[hol];kernel_rfl);clear hol;have cA:=λd os=>ay (gy ⟨gt,gr⟩ ⟨n',dA',dn',dc',ut,ur,oA,on,oc⟩ ⟨⟨nt,nr⟩,ni⟩ k (grow (redrawn W d) os));have cP:=λd os=>ay (jP ⟨gt,gr⟩ ⟨n',dA',dn',dc',ut,ur,oA,on,oc⟩ ⟨⟨pt,pr⟩,pi⟩ k (grow (redrawn W d) os));have cN:=λd os=>Calls.regrown_same (jI name (grow (redrawn W d) os) hn);have cB:=λd os=>ay (HBA.out (grow (redrawn W d) os));simp only[gxV,idV] at cA cP
 clear hBW0 hD hE HBA hn hdl hel HG HO HJ;cases h0:cL ⟨gt,gr⟩ ⟨⟨nt,nr⟩,ni⟩ k with
 |false=>
  rw[h0] at cA;obtain rfl:ans= -1:=by rw[HANS.out];exact dN (by rw[HK.out,h0];simp)
  exact absurd rfl HVT.out
 | true=>
  rw[h0] at cA;have H0:=hid h0;clear h0;cases h1:du ⟨gt,gr⟩ ⟨⟨pt,pr⟩,pi⟩ k with
  |false=>
   rw[h1] at cP;obtain rfl:ans= -1:=by rw[HANS.out];exact dN (by rw[HK.out,H0.out,h1];simp)
   exact absurd rfl HVT.out
  | true=>
   rw[h1] at cP;have H1:=hid h1;clear h1;cases h2:ek name with
   |false=>
    rw[h2] at cN;obtain rfl:ans= -1:=by rw[HANS.out];exact dN (by rw[HK.out,H0.out,H1.out,h2];simp)
    exact absurd rfl HVT.out
   | true=>
    rw[h2] at cN;have H2:=hid h2;clear h2;cases bb with
    |false=>
     obtain rfl:ans= -1:=by rw[HANS.out];exact dN (by rw[<-HBB.out];simp)
     exact absurd rfl HVT.out
    |true=>
     obtain rfl:ans=0:=by rw[HANS.out,fo (by rw[<-HBB.out,HK.out,H0.out,H1.out,H2.out];simp),HMO.out]
     refine bF ?_
     repeat(any_goals(first|(refine eI rfl _ _ rfl (w.heap.size+1) 0 rfl opl _ HRR.out az rfl HNL.out ?_;rw[HOL.out])|go_big_quiet_step (first|with_reducible exact cA _ _|with_reducible exact cP _ _|with_reducible exact cN _ _|with_reducible exact cB _ _)|quiet_step (first|with_reducible exact cA _ _|with_reducible exact cP _ _|with_reducible exact cN _ _|with_reducible exact cB _ _)))
     refine qz λwq hBq=> ?_;go_wp2;go_ret;exact⟨rfl,HBW.out.trans (hBq.mono HBW.out.size)⟩
theorem vop_2 (gt gr:Int) (n':Int) (dA':Option Addr) (dn' dc':Nat) (ut ur:Int) (oA:Option Addr) (on oc:Nat) (k:Nat) (nt nr ni pt pr pi:Int) (name:ByteArray) (dir:Bool) (dots:List Gst) (at_ ar ai et er ei:Int) (text:ByteArray) (elems:List Gid) (dA:Option Addr) (dc:Nat) (eA:Option Addr) (ec:Nat) (S:Nat->Prop) (w:World) (hn:name.size<=9223372036854775807) (hdl:dots.length<=9223372036854775807) (hel:elems.length<=9223372036854775807) (hD:StsS w S dA dots) (hE:IdsS w S eA elems) (hvt:(de ⟨gt,gr⟩ (⟨2,⟨⟨nt,nr⟩,ni⟩,⟨⟨pt,pr⟩,pi⟩,name,dir,dots,⟨⟨at_,ar⟩,ai⟩,⟨⟨et,er⟩,ei⟩,text,elems⟩:Gop) k && cr (⟨2,⟨⟨nt,nr⟩,ni⟩,⟨⟨pt,pr⟩,pi⟩,name,dir,dots,⟨⟨at_,ar⟩,ai⟩,⟨⟨et,er⟩,ei⟩,text,elems⟩:Gop))=true):
  Calls Tryz.prog 104 #[.agg #[gt,gr,n',.slice dA' dn' dc',ut,ur,.slice oA on oc],.agg #[(2:Int),nt,nr,ni,pt,pr,pi,name,dir,.slice dA dots.length dc,at_,ar,ai,et,er,ei,text,.slice eA elems.length ec],.int .i64 k] w λe w'=>e= .returned (.int .i64 (fW ⟨gt,gr⟩ (⟨2,⟨⟨nt,nr⟩,ni⟩,⟨⟨pt,pr⟩,pi⟩,name,dir,dots,⟨⟨at_,ar⟩,ai⟩,⟨⟨et,er⟩,ei⟩,text,elems⟩:Gop) k))∧Below w.heap.size w w':=by
 obtain⟨ans,hans⟩:∃v,v=fW ⟨gt,gr⟩ (⟨2,⟨⟨nt,nr⟩,ni⟩,⟨⟨pt,pr⟩,pi⟩,name,dir,dots,⟨⟨at_,ar⟩,ai⟩,⟨⟨et,er⟩,ei⟩,text,elems⟩:Gop) k:=⟨_,rfl⟩;rw[<-hans];have HVT:=hid (show ans≠ -1 from by rw[hans,fo hvt];omega);have hbt:cr (⟨2,⟨⟨nt,nr⟩,ni⟩,⟨⟨pt,pr⟩,pi⟩,name,dir,dots,⟨⟨at_,ar⟩,ai⟩,⟨⟨et,er⟩,ei⟩,text,elems⟩:Gop)=true:=(eG.1 hvt).2;obtain⟨bb,hbb⟩:∃b,b=cr (⟨2,⟨⟨nt,nr⟩,ni⟩,⟨⟨pt,pr⟩,pi⟩,name,dir,dots,⟨⟨at_,ar⟩,ai⟩,⟨⟨et,er⟩,ei⟩,text,elems⟩:Gop):=⟨_,rfl⟩;have HBB:=hid hbb
 have HBA:=hid (show ∀W,Calls Tryz.prog 160 #[.agg #[(2:Int),nt,nr,ni,pt,pr,pi,name,dir,.slice dA dots.length dc,at_,ar,ai,et,er,ei,text,.slice eA elems.length ec],false,false,true,false,false] W λe w'=>e= .returned (.bool bb)∧Below W.heap.size W w' from λW=>by
  refine(vbare_2 2 nt nr ni pt pr pi name dir dA dots.length dc at_ ar ai et er ei text eA elems.length ec W (Eq.trans (b:=cr (⟨2,⟨⟨nt,nr⟩,ni⟩,⟨⟨pt,pr⟩,pi⟩,name,dir,dots,⟨⟨at_,ar⟩,ai⟩,⟨⟨et,er⟩,ei⟩,text,elems⟩:Gop)) (by simp[cr,ff]) hbt)).mono ?_;rintro e w' ⟨rfl,hB⟩;refine⟨?_,hB⟩;congr 2;rw[hbb]
  simp[cr,ff])
 have HK:Hid (de ⟨gt,gr⟩ (⟨2,⟨⟨nt,nr⟩,ni⟩,⟨⟨pt,pr⟩,pi⟩,name,dir,dots,⟨⟨at_,ar⟩,ai⟩,⟨⟨et,er⟩,ei⟩,text,elems⟩:Gop) k=(cL ⟨gt,gr⟩ ⟨⟨nt,nr⟩,ni⟩ k && il ⟨gt,gr⟩ dots)):=hid (by simp[de]);have HMO:Hid ((eR (⟨2,⟨⟨nt,nr⟩,ni⟩,⟨⟨pt,pr⟩,pi⟩,name,dir,dots,⟨⟨at_,ar⟩,ai⟩,⟨⟨et,er⟩,ei⟩,text,elems⟩:Gop):Int)=0):=hid (by simp[eR]);have HANS:=hid hans;clear hvt hbt hans hbb;go_enter Tryz.func104,Tryz.ntmps104;go_upto_region 2 with fail;generalize hW:(((w.alloc (.cells #[gt,gr,n',.slice dA' dn' dc',ut,ur,.slice oA on oc] 45)).alloc (.cells #[(2:Int),nt,nr,ni,pt,pr,pi,name,dir,.slice dA dots.length dc,at_,ar,ai,et,er,ei,text,.slice eA elems.length ec] 125)).alloc (.cells #[gt,gr,.int .i64 k] 108))=W;have HG:=hid (show W.heap[w.heap.size]? =some (.cells #[gt,gr,n',.slice dA' dn' dc',ut,ur,.slice oA on oc] 45 (0,0)) by rw[<-hW];exact(ax _ _ _ (by simp;omega)).trans ((ax _ _ _ (by simp)).trans (am _ _)));have HO:=hid (show W.heap[w.heap.size+1]? =some (.cells #[(2:Int),nt,nr,ni,pt,pr,pi,name,dir,.slice dA dots.length dc,at_,ar,ai,et,er,ei,text,.slice eA elems.length ec] 125 (0,0)) by rw[<-hW];exact(ax _ _ _ (by simp)).trans (cJ _ _ (by simp)));have HJ:=hid (show W.heap[w.heap.size+2]? =some (.cells #[gt,gr,.int .i64 k] 108 (0,0)) by rw[<-hW];exact cJ _ _ (by simp))
 have HBW:=hid (show Below w.heap.size w W by rw[<-hW];exact(((ag _ _).alloc (aa _) _).alloc (by simp) _).alloc (by simp;omega) _);clear hW;have r0:=cw0 HO.out;go_upto_region 10 with fail;clear r0;have hBW0:=HBW.out;have x1:=rg1 HO.out;have x2:=rg2 HO.out;have x3:=rg3 HO.out;have x9:=rg9 HO.out;have y0:=rg0 HG.out;have y1:=rg1 HG.out;have y2:=rg2 HG.out;have y3:=rg3 HG.out;have y4:=rg4 HG.out;have y5:=rg5 HG.out;have y6:=rg6 HG.out;obtain⟨opl,hol⟩:∃l:List Value,l=[.int .i64 2,.int .i64 nt,.int .i64 nr,.int .i64 ni,.int .i64 pt,.int .i64 pr,.int .i64 pi,.string name,.bool dir,.slice dA dots.length dc,.int .i64 at_,.int .i64 ar,.int .i64 ai,.int .i64 et,.int .i64 er,.int .i64 ei,.string text,.slice eA elems.length ec]:=⟨_,rfl⟩;have HOL:=hid hol;have HRR:=hid (eT (show W.rangeAt (w.heap.size+1) 0 opl by rw[hol];exact iz HO.out));have HNL:=hid (show(Tryz.prog.info? 125).map (·.size)=some opl.length by rw[hol];kernel_rfl);clear hol;have cA:=λd os=>ay (gy ⟨gt,gr⟩ ⟨n',dA',dn',dc',ut,ur,oA,on,oc⟩ ⟨⟨nt,nr⟩,ni⟩ k (grow (redrawn W d) os));have cD:=λd os=>ay (refdots_any ⟨gt,gr⟩ ⟨n',dA',dn',dc',ut,ur,oA,on,oc⟩ dA dc dots S (grow (redrawn W d) os) hdl (hD.agr (Agr.below (hBW0.trans ((bE W d os).mono hBW0.size)))));have cB:=λd os=>ay (HBA.out (grow (redrawn W d) os));simp only[gxV,idV] at cA cD;clear hBW0 hD hE HBA hn hdl hel HG HO HJ;cases h0:cL ⟨gt,gr⟩ ⟨⟨nt,nr⟩,ni⟩ k with
 |false=>
  rw[h0] at cA;obtain rfl:ans= -1:=by rw[HANS.out];exact dN (by rw[HK.out,h0];simp)
  exact absurd rfl HVT.out
 | true=>
  rw[h0] at cA;have H0:=hid h0;clear h0;cases h1:il ⟨gt,gr⟩ dots with
  |false=>
   rw[h1] at cD;obtain rfl:ans= -1:=by rw[HANS.out];exact dN (by rw[HK.out,H0.out,h1];simp)
   exact absurd rfl HVT.out
  | true=>
   rw[h1] at cD;have H1:=hid h1;clear h1;cases bb with
   |false=>
    obtain rfl:ans= -1:=by rw[HANS.out];exact dN (by rw[<-HBB.out];simp)
    exact absurd rfl HVT.out
   |true=>
    obtain rfl:ans=0:=by rw[HANS.out,fo (by rw[<-HBB.out,HK.out,H0.out,H1.out];simp),HMO.out]
    refine bF ?_
    repeat(any_goals(first|(refine eI rfl _ _ rfl (w.heap.size+1) 0 rfl opl _ HRR.out az rfl HNL.out ?_;rw[HOL.out])|go_big_quiet_step (first|with_reducible exact cA _ _|with_reducible exact cD _ _|with_reducible exact cB _ _)|quiet_step (first|with_reducible exact cA _ _|with_reducible exact cD _ _|with_reducible exact cB _ _)))
    refine qz λwq hBq=> ?_;go_wp2;go_ret;exact⟨rfl,HBW.out.trans (hBq.mono HBW.out.size)⟩
theorem vop_4 (gt gr:Int) (n':Int) (dA':Option Addr) (dn' dc':Nat) (ut ur:Int) (oA:Option Addr) (on oc:Nat) (k:Nat) (nt nr ni pt pr pi:Int) (name:ByteArray) (dir:Bool) (dots:List Gst) (at_ ar ai et er ei:Int) (text:ByteArray) (elems:List Gid) (dA:Option Addr) (dc:Nat) (eA:Option Addr) (ec:Nat) (S:Nat->Prop) (w:World) (hn:name.size<=9223372036854775807) (hdl:dots.length<=9223372036854775807) (hel:elems.length<=9223372036854775807) (hD:StsS w S dA dots) (hE:IdsS w S eA elems) (hvt:(de ⟨gt,gr⟩ (⟨4,⟨⟨nt,nr⟩,ni⟩,⟨⟨pt,pr⟩,pi⟩,name,dir,dots,⟨⟨at_,ar⟩,ai⟩,⟨⟨et,er⟩,ei⟩,text,elems⟩:Gop) k && cr (⟨4,⟨⟨nt,nr⟩,ni⟩,⟨⟨pt,pr⟩,pi⟩,name,dir,dots,⟨⟨at_,ar⟩,ai⟩,⟨⟨et,er⟩,ei⟩,text,elems⟩:Gop))=true):
  Calls Tryz.prog 104 #[.agg #[gt,gr,n',.slice dA' dn' dc',ut,ur,.slice oA on oc],.agg #[(4:Int),nt,nr,ni,pt,pr,pi,name,dir,.slice dA dots.length dc,at_,ar,ai,et,er,ei,text,.slice eA elems.length ec],.int .i64 k] w λe w'=>e= .returned (.int .i64 (fW ⟨gt,gr⟩ (⟨4,⟨⟨nt,nr⟩,ni⟩,⟨⟨pt,pr⟩,pi⟩,name,dir,dots,⟨⟨at_,ar⟩,ai⟩,⟨⟨et,er⟩,ei⟩,text,elems⟩:Gop) k))∧Below w.heap.size w w':=by
 obtain⟨ans,hans⟩:∃v,v=fW ⟨gt,gr⟩ (⟨4,⟨⟨nt,nr⟩,ni⟩,⟨⟨pt,pr⟩,pi⟩,name,dir,dots,⟨⟨at_,ar⟩,ai⟩,⟨⟨et,er⟩,ei⟩,text,elems⟩:Gop) k:=⟨_,rfl⟩;rw[<-hans];have HVT:=hid (show ans≠ -1 from by rw[hans,fo hvt];omega);have hbt:cr (⟨4,⟨⟨nt,nr⟩,ni⟩,⟨⟨pt,pr⟩,pi⟩,name,dir,dots,⟨⟨at_,ar⟩,ai⟩,⟨⟨et,er⟩,ei⟩,text,elems⟩:Gop)=true:=(eG.1 hvt).2;obtain⟨bb,hbb⟩:∃b,b=cr (⟨4,⟨⟨nt,nr⟩,ni⟩,⟨⟨pt,pr⟩,pi⟩,name,dir,dots,⟨⟨at_,ar⟩,ai⟩,⟨⟨et,er⟩,ei⟩,text,elems⟩:Gop):=⟨_,rfl⟩;have HBB:=hid hbb
 have HBA:=hid (show ∀W,Calls Tryz.prog 160 #[.agg #[(4:Int),nt,nr,ni,pt,pr,pi,name,dir,.slice dA dots.length dc,at_,ar,ai,et,er,ei,text,.slice eA elems.length ec],false,false,false,false,true] W λe w'=>e= .returned (.bool bb)∧Below W.heap.size W w' from λW=>by
  refine(vbare_4 4 nt nr ni pt pr pi name dir dA dots.length dc at_ ar ai et er ei text eA elems.length ec W (Eq.trans (b:=cr (⟨4,⟨⟨nt,nr⟩,ni⟩,⟨⟨pt,pr⟩,pi⟩,name,dir,dots,⟨⟨at_,ar⟩,ai⟩,⟨⟨et,er⟩,ei⟩,text,elems⟩:Gop)) (by simp[cr,ff]) hbt)).mono ?_;rintro e w' ⟨rfl,hB⟩;refine⟨?_,hB⟩;congr 2;rw[hbb]
  simp[cr,ff])
 have HK:Hid (de ⟨gt,gr⟩ (⟨4,⟨⟨nt,nr⟩,ni⟩,⟨⟨pt,pr⟩,pi⟩,name,dir,dots,⟨⟨at_,ar⟩,ai⟩,⟨⟨et,er⟩,ei⟩,text,elems⟩:Gop) k=(cL ⟨gt,gr⟩ ⟨⟨nt,nr⟩,ni⟩ k && fQ ⟨gt,gr⟩ elems k)):=hid (by simp[de]);have HMO:Hid ((eR (⟨4,⟨⟨nt,nr⟩,ni⟩,⟨⟨pt,pr⟩,pi⟩,name,dir,dots,⟨⟨at_,ar⟩,ai⟩,⟨⟨et,er⟩,ei⟩,text,elems⟩:Gop):Int)=0):=hid (by simp[eR]);have HANS:=hid hans;clear hvt hbt hans hbb;go_enter Tryz.func104,Tryz.ntmps104;go_upto_region 2 with fail;generalize hW:(((w.alloc (.cells #[gt,gr,n',.slice dA' dn' dc',ut,ur,.slice oA on oc] 45)).alloc (.cells #[(4:Int),nt,nr,ni,pt,pr,pi,name,dir,.slice dA dots.length dc,at_,ar,ai,et,er,ei,text,.slice eA elems.length ec] 125)).alloc (.cells #[gt,gr,.int .i64 k] 108))=W;have HG:=hid (show W.heap[w.heap.size]? =some (.cells #[gt,gr,n',.slice dA' dn' dc',ut,ur,.slice oA on oc] 45 (0,0)) by rw[<-hW];exact(ax _ _ _ (by simp;omega)).trans ((ax _ _ _ (by simp)).trans (am _ _)));have HO:=hid (show W.heap[w.heap.size+1]? =some (.cells #[(4:Int),nt,nr,ni,pt,pr,pi,name,dir,.slice dA dots.length dc,at_,ar,ai,et,er,ei,text,.slice eA elems.length ec] 125 (0,0)) by rw[<-hW];exact(ax _ _ _ (by simp)).trans (cJ _ _ (by simp)));have HJ:=hid (show W.heap[w.heap.size+2]? =some (.cells #[gt,gr,.int .i64 k] 108 (0,0)) by rw[<-hW];exact cJ _ _ (by simp))
 have HBW:=hid (show Below w.heap.size w W by rw[<-hW];exact(((ag _ _).alloc (aa _) _).alloc (by simp) _).alloc (by simp;omega) _);clear hW;have r0:=cw0 HO.out;go_upto_region 17 with fail;clear r0;have hBW0:=HBW.out;have x1:=rg1 HO.out;have x2:=rg2 HO.out;have x3:=rg3 HO.out;have x17:=rg17 HO.out;have y0:=rg0 HG.out;have y1:=rg1 HG.out;have y2:=rg2 HG.out;have y3:=rg3 HG.out;have y4:=rg4 HG.out;have y5:=rg5 HG.out;have y6:=rg6 HG.out;obtain⟨opl,hol⟩:∃l:List Value,l=[.int .i64 4,.int .i64 nt,.int .i64 nr,.int .i64 ni,.int .i64 pt,.int .i64 pr,.int .i64 pi,.string name,.bool dir,.slice dA dots.length dc,.int .i64 at_,.int .i64 ar,.int .i64 ai,.int .i64 et,.int .i64 er,.int .i64 ei,.string text,.slice eA elems.length ec]:=⟨_,rfl⟩;have HOL:=hid hol;have HRR:=hid (eT (show W.rangeAt (w.heap.size+1) 0 opl by rw[hol];exact iz HO.out));have HNL:=hid (show(Tryz.prog.info? 125).map (·.size)=some opl.length by rw[hol];kernel_rfl);clear hol;have cA:=λd os=>ay (gy ⟨gt,gr⟩ ⟨n',dA',dn',dc',ut,ur,oA,on,oc⟩ ⟨⟨nt,nr⟩,ni⟩ k (grow (redrawn W d) os));have cE:=λd os=>ay (refelems_any ⟨gt,gr⟩ ⟨n',dA',dn',dc',ut,ur,oA,on,oc⟩ k eA ec elems S (grow (redrawn W d) os) hel (hE.agr (Agr.below (hBW0.trans ((bE W d os).mono hBW0.size)))));have cB:=λd os=>ay (HBA.out (grow (redrawn W d) os));simp only[gxV,idV] at cA cE;clear hBW0 hD hE HBA hn hdl hel HG HO HJ;cases h0:cL ⟨gt,gr⟩ ⟨⟨nt,nr⟩,ni⟩ k with
 |false=>
  rw[h0] at cA;obtain rfl:ans= -1:=by rw[HANS.out];exact dN (by rw[HK.out,h0];simp)
  exact absurd rfl HVT.out
 | true=>
  rw[h0] at cA;have H0:=hid h0;clear h0;cases h1:fQ ⟨gt,gr⟩ elems k with
  |false=>
   rw[h1] at cE;obtain rfl:ans= -1:=by rw[HANS.out];exact dN (by rw[HK.out,H0.out,h1];simp)
   exact absurd rfl HVT.out
  | true=>
   rw[h1] at cE;have H1:=hid h1;clear h1;cases bb with
   |false=>
    obtain rfl:ans= -1:=by rw[HANS.out];exact dN (by rw[<-HBB.out];simp)
    exact absurd rfl HVT.out
   |true=>
    obtain rfl:ans=0:=by rw[HANS.out,fo (by rw[<-HBB.out,HK.out,H0.out,H1.out];simp),HMO.out]
    refine bF ?_
    repeat(any_goals(first|(refine eI rfl _ _ rfl (w.heap.size+1) 0 rfl opl _ HRR.out az rfl HNL.out ?_;rw[HOL.out])|go_big_quiet_step (first|with_reducible exact cA _ _|with_reducible exact cE _ _|with_reducible exact cB _ _)|quiet_step (first|with_reducible exact cA _ _|with_reducible exact cE _ _|with_reducible exact cB _ _)))
    refine qz λwq hBq=> ?_;go_wp2;go_ret;exact⟨rfl,HBW.out.trans (hBq.mono HBW.out.size)⟩
theorem vop_3s (gt gr:Int) (n':Int) (dA':Option Addr) (dn' dc':Nat) (ut ur:Int) (oA:Option Addr) (on oc:Nat) (k:Nat) (nt nr ni pt pr pi:Int) (name:ByteArray) (dir:Bool) (dots:List Gst) (at_ ar ai et er ei:Int) (text:ByteArray) (elems:List Gid) (dA:Option Addr) (dc:Nat) (eA:Option Addr) (ec:Nat) (S:Nat->Prop) (w:World) (hn:name.size<=9223372036854775807) (hdl:dots.length<=9223372036854775807) (hel:elems.length<=9223372036854775807) (hD:StsS w S dA dots) (hE:IdsS w S eA elems) (htx:text.size<=1000000) (m:Nat) (hcnt:cnt text.data.toList=some m) (hvt:(de ⟨gt,gr⟩ (⟨3,⟨⟨nt,nr⟩,ni⟩,⟨⟨pt,pr⟩,pi⟩,name,dir,dots,⟨⟨at_,ar⟩,ai⟩,⟨⟨et,er⟩,ei⟩,text,elems⟩:Gop) k && cr (⟨3,⟨⟨nt,nr⟩,ni⟩,⟨⟨pt,pr⟩,pi⟩,name,dir,dots,⟨⟨at_,ar⟩,ai⟩,⟨⟨et,er⟩,ei⟩,text,elems⟩:Gop))=true):
  Calls Tryz.prog 104 #[.agg #[gt,gr,n',.slice dA' dn' dc',ut,ur,.slice oA on oc],.agg #[(3:Int),nt,nr,ni,pt,pr,pi,name,dir,.slice dA dots.length dc,at_,ar,ai,et,er,ei,text,.slice eA elems.length ec],.int .i64 k] w λe w'=>e= .returned (.int .i64 (fW ⟨gt,gr⟩ (⟨3,⟨⟨nt,nr⟩,ni⟩,⟨⟨pt,pr⟩,pi⟩,name,dir,dots,⟨⟨at_,ar⟩,ai⟩,⟨⟨et,er⟩,ei⟩,text,elems⟩:Gop) k))∧Below w.heap.size w w':=by
 obtain⟨ans,hans⟩:∃v,v=fW ⟨gt,gr⟩ (⟨3,⟨⟨nt,nr⟩,ni⟩,⟨⟨pt,pr⟩,pi⟩,name,dir,dots,⟨⟨at_,ar⟩,ai⟩,⟨⟨et,er⟩,ei⟩,text,elems⟩:Gop) k:=⟨_,rfl⟩;rw[<-hans];have HVT:=hid (show ans≠ -1 from by rw[hans,fo hvt];omega);have hbt:cr (⟨3,⟨⟨nt,nr⟩,ni⟩,⟨⟨pt,pr⟩,pi⟩,name,dir,dots,⟨⟨at_,ar⟩,ai⟩,⟨⟨et,er⟩,ei⟩,text,elems⟩:Gop)=true:=(eG.1 hvt).2;obtain⟨bb,hbb⟩:∃b,b=cr (⟨3,⟨⟨nt,nr⟩,ni⟩,⟨⟨pt,pr⟩,pi⟩,name,dir,dots,⟨⟨at_,ar⟩,ai⟩,⟨⟨et,er⟩,ei⟩,text,elems⟩:Gop):=⟨_,rfl⟩;have HBB:=hid hbb
 have HBA:=hid (show ∀W,Calls Tryz.prog 160 #[.agg #[(3:Int),nt,nr,ni,pt,pr,pi,name,dir,.slice dA dots.length dc,at_,ar,ai,et,er,ei,text,.slice eA elems.length ec],false,false,false,true,false] W λe w'=>e= .returned (.bool bb)∧Below W.heap.size W w' from λW=>by
  refine(vbare_3 3 nt nr ni pt pr pi name dir dA dots.length dc at_ ar ai et er ei text eA elems.length ec W (Eq.trans (b:=cr (⟨3,⟨⟨nt,nr⟩,ni⟩,⟨⟨pt,pr⟩,pi⟩,name,dir,dots,⟨⟨at_,ar⟩,ai⟩,⟨⟨et,er⟩,ei⟩,text,elems⟩:Gop)) (by simp[cr,ff]) hbt)).mono ?_;rintro e w' ⟨rfl,hB⟩;refine⟨?_,hB⟩;congr 2;rw[hbb]
  simp[cr,ff])
 have HK:Hid (de ⟨gt,gr⟩ (⟨3,⟨⟨nt,nr⟩,ni⟩,⟨⟨pt,pr⟩,pi⟩,name,dir,dots,⟨⟨at_,ar⟩,ai⟩,⟨⟨et,er⟩,ei⟩,text,elems⟩:Gop) k=(cL ⟨gt,gr⟩ ⟨⟨nt,nr⟩,ni⟩ k && du ⟨gt,gr⟩ ⟨⟨at_,ar⟩,ai⟩ k && Gid.eqb ⟨⟨et,er⟩,ei⟩ ⟨⟨gt,gr⟩,(k:Int)⟩ && (decide (1<=m) && decide (m<=2000)))):=hid (by simp[de,textB,jj,hcnt,jk hcnt]);have HMO:Hid ((eR (⟨3,⟨⟨nt,nr⟩,ni⟩,⟨⟨pt,pr⟩,pi⟩,name,dir,dots,⟨⟨at_,ar⟩,ai⟩,⟨⟨et,er⟩,ei⟩,text,elems⟩:Gop):Int)=m):=hid (by simp[eR,jk hcnt]);have HLe:Hid (∀w,Calls Tryz.prog 163 #[text] w λe w'=>e= .returned (.tuple #[.int .i64 m,(0:Int)])∧Below w.heap.size w w'):=hid (λw=>reflen_ok text m w htx hcnt);have HANS:=hid hans;clear hvt hbt hans hbb hcnt htx;go_enter Tryz.func104,Tryz.ntmps104;go_upto_region 2 with fail;generalize hW:(((w.alloc (.cells #[gt,gr,n',.slice dA' dn' dc',ut,ur,.slice oA on oc] 45)).alloc (.cells #[(3:Int),nt,nr,ni,pt,pr,pi,name,dir,.slice dA dots.length dc,at_,ar,ai,et,er,ei,text,.slice eA elems.length ec] 125)).alloc (.cells #[gt,gr,.int .i64 k] 108))=V;have HGV:=hid (show V.heap[w.heap.size]? =some (.cells #[gt,gr,n',.slice dA' dn' dc',ut,ur,.slice oA on oc] 45 (0,0)) by rw[<-hW];exact(ax _ _ _ (by simp;omega)).trans ((ax _ _ _ (by simp)).trans (am _ _)))
 have HOV:=hid (show V.heap[w.heap.size+1]? =some (.cells #[(3:Int),nt,nr,ni,pt,pr,pi,name,dir,.slice dA dots.length dc,at_,ar,ai,et,er,ei,text,.slice eA elems.length ec] 125 (0,0)) by rw[<-hW];exact(ax _ _ _ (by simp)).trans (cJ _ _ (by simp)));have HJV:=hid (show V.heap[w.heap.size+2]? =some (.cells #[gt,gr,.int .i64 k] 108 (0,0)) by rw[<-hW];exact cJ _ _ (by simp));have HBV:=hid (show Below w.heap.size w V by rw[<-hW];exact(((ag _ _).alloc (aa _) _).alloc (by simp) _).alloc (by simp;omega) _);clear hW;have r0:=cw0 HOV.out;have r16:=cw16 HOV.out;go_upto_region 14 with(go_at_call 163;refine(HLe.out _).mono ?_;rintro e W ⟨rfl,hB2⟩);have HG:=bK hB2 HGV;have HO:=bK hB2 HOV;have HJ:=bK hB2 HJV;have HBW:=bT HBV hB2;clear r0 r16 hB2 HGV HOV HJV HBV;have hBW0:=HBW.out;have x1:=rg1 HO.out;have x2:=rg2 HO.out;have x3:=rg3 HO.out;have x10:=rg10 HO.out;have x11:=rg11 HO.out;have x12:=rg12 HO.out;have x13:=rg13 HO.out;have x14:=rg14 HO.out;have x15:=rg15 HO.out;have y0:=rg0 HG.out;have y1:=rg1 HG.out;have y2:=rg2 HG.out;have y3:=rg3 HG.out;have y4:=rg4 HG.out;have y5:=rg5 HG.out;have y6:=rg6 HG.out;have z0:=rg0 HJ.out;have z1:=rg1 HJ.out;have z2:=rg2 HJ.out
 obtain⟨opl,hol⟩:∃l:List Value,l=[.int .i64 3,.int .i64 nt,.int .i64 nr,.int .i64 ni,.int .i64 pt,.int .i64 pr,.int .i64 pi,.string name,.bool dir,.slice dA dots.length dc,.int .i64 at_,.int .i64 ar,.int .i64 ai,.int .i64 et,.int .i64 er,.int .i64 ei,.string text,.slice eA elems.length ec]:=⟨_,rfl⟩;have HOL:=hid hol;have HRR:=hid (eT (show W.rangeAt (w.heap.size+1) 0 opl by rw[hol];exact iz HO.out));have HNL:=hid (show(Tryz.prog.info? 125).map (·.size)=some opl.length by rw[hol];kernel_rfl);clear hol;have cA:=λd os=>ay (gy ⟨gt,gr⟩ ⟨n',dA',dn',dc',ut,ur,oA,on,oc⟩ ⟨⟨nt,nr⟩,ni⟩ k (grow (redrawn W d) os));have cQ:=λd os=>ay (jP ⟨gt,gr⟩ ⟨n',dA',dn',dc',ut,ur,oA,on,oc⟩ ⟨⟨at_,ar⟩,ai⟩ k (grow (redrawn W d) os));have cB:=λd os=>ay (HBA.out (grow (redrawn W d) os));simp only[gxV,idV] at cA cQ;clear hBW0 hD hE HBA hn hdl hel HG HO HJ;cases h0:cL ⟨gt,gr⟩ ⟨⟨nt,nr⟩,ni⟩ k with
 |false=>
  rw[h0] at cA;obtain rfl:ans= -1:=by rw[HANS.out];exact dN (by rw[HK.out,h0];simp)
  exact absurd rfl HVT.out
 | true=>
  rw[h0] at cA;have H0:=hid h0;clear h0;cases h1:du ⟨gt,gr⟩ ⟨⟨at_,ar⟩,ai⟩ k with
  |false=>
   rw[h1] at cQ;obtain rfl:ans= -1:=by rw[HANS.out];exact dN (by rw[HK.out,H0.out,h1];simp)
   exact absurd rfl HVT.out
  | true=>
   rw[h1] at cQ;have H1:=hid h1;clear h1;cases h2:Gid.eqb ⟨⟨et,er⟩,ei⟩ ⟨⟨gt,gr⟩,(k:Int)⟩ with
   |false=>
    have he:=eJ et er ei gt gr k false h2;obtain rfl:ans= -1:=by rw[HANS.out];exact dN (by rw[HK.out,H0.out,H1.out,h2];simp)
    exact absurd rfl HVT.out
   | true=>
    have he:=eJ et er ei gt gr k true h2;have H2:=hid h2;clear h2;by_cases m1:1<=m
    rotate_left
    ·obtain rfl:m=0:=by omega
     obtain rfl:ans= -1:=by rw[HANS.out];exact dN (by rw[HK.out,H0.out,H1.out,H2.out];simp)
     exact absurd rfl HVT.out
    have b1:decide ((m:Int)≥1)=true:=by rw[ak];omega
    have b2:(m:Int)≥1:=by omega
    have b4:(1:Int)<=(m:Int):=by omega
    by_cases m2:m<=2000
    rotate_left
    ·have b3:¬(m:Int)<=2000:=by omega
     obtain rfl:ans= -1:=by rw[HANS.out];exact dN (by rw[HK.out,H0.out,H1.out,H2.out];simp[m2])
     exact absurd rfl HVT.out
    have b3:(m:Int)<=2000:=by omega
    have HM1:=hid m1;have HM2:=hid m2;clear m1 m2;cases bb with
    |false=>
     obtain rfl:ans= -1:=by rw[HANS.out];exact dN (by rw[<-HBB.out];simp)
     exact absurd rfl HVT.out
    |true=>
     obtain rfl:ans=m:=by rw[HANS.out,fo (by rw[<-HBB.out,HK.out,H0.out,H1.out,H2.out];simp[HM1.out,HM2.out]),HMO.out]
     refine bF ?_
     repeat(any_goals(first|(refine eI rfl _ _ rfl (w.heap.size+1) 0 rfl opl _ HRR.out az rfl HNL.out ?_;rw[HOL.out])|go_big_quiet_step (first|with_reducible exact cA _ _|with_reducible exact cQ _ _|with_reducible exact cB _ _)|quiet_step (first|with_reducible exact cA _ _|with_reducible exact cQ _ _|with_reducible exact cB _ _)))
     refine qz λwq hBq=> ?_;go_wp2;go_ret;exact⟨rfl,HBW.out.trans (hBq.mono HBW.out.size)⟩
theorem vop_any (gt gr:Int) (n':Int) (dA':Option Addr) (dn' dc':Nat) (ut ur:Int) (oA:Option Addr) (on oc:Nat) (k:Nat) (o:Gop) (x:OpX) (S:Nat->Prop) (w:World) (hI:OpIn w S o x) (ht:o.text.size<=1000000) (hvt:opB ⟨gt,gr⟩ o k=true):
  Calls Tryz.prog 104 #[.agg #[gt,gr,n',.slice dA' dn' dc',ut,ur,.slice oA on oc],.agg (opA o x),.int .i64 k] w λe w'=>e= .returned (.int .i64 (fW ⟨gt,gr⟩ o k))∧Below w.heap.size w w':=by
 have hvt:(de ⟨gt,gr⟩ o k && cr o)=true:=by rw[Bool.and_comm];exact hvt
 obtain⟨kind,⟨⟨nt,nr⟩,ni⟩,⟨⟨pt,pr⟩,pi⟩,name,dir,dots,⟨⟨at_,ar⟩,ai⟩,⟨⟨et,er⟩,ei⟩,text,elems⟩:=o;obtain⟨dA,dc,eA,ec⟩:=x;have hdl:=aL hI.dle hI.dmax;have hel:=aL hI.ele hI.emax;have hna:=hI.name;have hDo:=hI.dots;have hEl:=hI.elems;simp only[maxLen] at hdl hel hna hDo hEl ht;by_cases k0:kind=0
 ·subst k0;exact vop_0 gt gr n' dA' dn' dc' ut ur oA on oc k nt nr ni pt pr pi name dir dots at_ ar ai et er ei text elems dA dc eA ec S w (by omega) (by omega) (by omega) hDo hEl hvt
 by_cases k1:kind=1
 ·subst k1;exact vop_1 gt gr n' dA' dn' dc' ut ur oA on oc k nt nr ni pt pr pi name dir dots at_ ar ai et er ei text elems dA dc eA ec S w (by omega) (by omega) (by omega) hDo hEl hvt
 by_cases k2:kind=2
 ·subst k2;exact vop_2 gt gr n' dA' dn' dc' ut ur oA on oc k nt nr ni pt pr pi name dir dots at_ ar ai et er ei text elems dA dc eA ec S w (by omega) (by omega) (by omega) hDo hEl hvt
 by_cases k4:kind=4
 ·subst k4;exact vop_4 gt gr n' dA' dn' dc' ut ur oA on oc k nt nr ni pt pr pi name dir dots at_ ar ai et er ei text elems dA dc eA ec S w (by omega) (by omega) (by omega) hDo hEl hvt
 by_cases k3:kind=3
 ·subst k3;cases hc:cnt text.data.toList with
  |none=>
   exfalso;have h9:=(eG.1 hvt).1;unfold de at h9;simp only[textB,jj,hc] at h9;simp at h9
  |some m=>exact vop_3s gt gr n' dA' dn' dc' ut ur oA on oc k nt nr ni pt pr pi name dir dots at_ ar ai et er ei text elems dA dc eA ec S w (by omega) (by omega) (by omega) hDo hEl ht m hc hvt
 exfalso;have h9:=(eG.1 hvt).1;unfold de at h9;simp[k0,k1,k2,k3,k4] at h9
theorem v9head_parts {t r n:Int} {v:List Int} {ut ur:Int} {ops:List Gop} (h:gC ⟨⟨t,r⟩,n,v,⟨ut,ur⟩,ops⟩=true):Gst.right ⟨t,r⟩=true∧1<=n∧n<=1099511627776∧vecB v=true∧atV v r=n-1:=by
 simp only[gC,ap,ak] at h;exact⟨h.1.1.1.1,h.1.1.1.2,h.1.1.2,h.1.2,h.2⟩
theorem vchk_undo (t r n:Int) (v:List Int) (ut ur:Int) (ops:List Gop) (dA:Option Addr) (dc:Nat) (oA:Option Addr) (oc:Nat) (w:World) (hl:v.length<=dc) (hc:dc<=9223372036854775807) (hn:i63 n) (hD:VecR w dA v) (hh:gC ⟨⟨t,r⟩,n,v,⟨ut,ur⟩,ops⟩=true) (hu:Gst.eqb ⟨ut,ur⟩ ⟨0,0⟩=false) (z:Int) (hz:z=if (Gst.right ⟨ut,ur⟩ && Gst.lt ⟨ut,ur⟩ ⟨t,r⟩ && decide (ops.length=0))=true then 0 else 80) (hvz:z≠80):
  Calls Tryz.prog 54 #[.agg #[t,r,n,.slice dA v.length dc,ut,ur,.slice oA ops.length oc]] w λe w'=>e= .returned (.int .i64 z)∧Below w.heap.size w w':=by
 have HZ:=hid hz;have HVT:=hid hvz;clear hvz;clear hz;obtain⟨hR,h1,h2,hV,h3⟩:=v9head_parts hh;have hn2:=hn;unfold i63 at hn2;obtain⟨W,hW⟩:∃W,W=w.alloc (.cells #[t,r,n,.slice dA v.length dc,ut,ur,.slice oA ops.length oc] 45):=⟨_,rfl⟩;have hBW:Below w.heap.size w W:=by subst hW;exact(ag _ _).alloc (aa _) _
 have hD2:=hD.below hBW;have hA:W.heap[w.heap.size]? =some (.cells #[t,r,n,.slice dA v.length dc,ut,ur,.slice oA ops.length oc] 45 (0,0)):=by subst hW;exact am _ _
 have x0:=rg0 hA;have x1:=rg1 hA;have x2:=rg2 hA;have x3:=rg3 hA;have cR:=λd os=>ay (gw t r (grow (redrawn W d) os));have cV:=λd os=>ay (refvector_any dA dc v (grow (redrawn W d) os) hl (by omega) (hD2.regrown d os));have cA:=λd os=>Calls.regrown_same (fh dA dc v r (grow (redrawn W d) os) (by omega) (hD2.regrown d os));have HW:=hid hW;have HA:=hid hA;have HBW:=hid hBW;clear hA hD2 hW hBW;rw[hR] at cR;rw[hV] at cV;have t1:decide (n<1)=false:=aE (by omega);have s1:¬n<1:=by omega
 have t2:decide (1099511627776<n)=false:=aE (by omega);have s2:¬1099511627776<n:=by omega
 have hw:IntKind.i64.wrap (n-1)=n-1:=ds _ (by omega);have HD:=hid hD;rw[h3] at cA;have t3:(n-1 == n-1)=true:=beq_self_eq_true _;have t4:(n-1 != n-1)=false:=by rw[bne_eq_false_iff_eq]
 have hne:=ne_st ut ur 0 0 false hu;clear hh h3 hV hR hl hc hn hn2 hD hu h1 h2;go_enter Tryz.func54,Tryz.ntmps54;go_upto_region 1 with fail;rw[<-HW.out];refine rqb ?_
 repeat(any_goals(first|go_big_quiet_step (with_reducible first|exact cR _ _|exact cV _ _|exact cA _ _)|quiet_step (with_reducible first|exact cR _ _|exact cV _ _|exact cA _ _)))
 refine qz λwq hBq=> ?_;have HA2:=bK hBq HA;have HB2:=bT HBW hBq;clear hBq x0 x1 x2 x3 cR cV cA t1 t2 s1 s2 hw t3 t4 HW HA HBW;have r0:=cw0 HA2.out;have r1:=cw1 HA2.out;have r2:=cw2 HA2.out;have r3:=cw3 HA2.out;have r4:=cw4 HA2.out;have r5:=cw5 HA2.out;have r6:=cw6 HA2.out;go_upto_region 4 with fail;clear hne;have x0:=rg0 HA2.out;have x1:=rg1 HA2.out;have x4:=rg4 HA2.out;have x5:=rg5 HA2.out;have x6:=rg6 HA2.out;have cU:=λd os=>ay (gw ut ur (grow (redrawn wq d) os));have cB:=λd os=>ay (eN ut ur t r (grow (redrawn wq d) os));clear r0 r1 r2 r3 r4 r5 r6 HA2 HD;cases hU:Gst.right ⟨ut,ur⟩ with
 |false=>
  obtain rfl:z=80:=by rw[HZ.out,hU];simp
  exact absurd rfl HVT.out
 |true=>
 have HU:=hid hU;rw[hU] at cU;clear hU;cases hL:Gst.lt ⟨ut,ur⟩ ⟨t,r⟩ with
 |false=>
  obtain rfl:z=80:=by rw[HZ.out,hL];simp
  exact absurd rfl HVT.out
 |true=>
 have HL:=hid hL;rw[hL] at cB;clear hL;by_cases h0:ops.length=0
 ·obtain rfl:z=0:=by rw[HZ.out,HU.out,HL.out,h0];simp
  have e1:ops=[]:=bR h0;subst e1;clear h0;refine bF ?_
  repeat(any_goals(first|go_big_quiet_step (with_reducible first|exact cU _ _|exact cB _ _)|quiet_step (with_reducible first|exact cU _ _|exact cB _ _)))
  refine qz λwq hBq=> ?_;go_wp2;go_ret;exact⟨rfl,HB2.out.trans (hBq.mono HB2.out.size)⟩
 ·obtain rfl:z=80:=by rw[HZ.out,aE h0];simp
  exact absurd rfl HVT.out
theorem v9refV_opB {g:Gst} {o:Gop} {k:Nat} (b:Bool) (h:b=opB g o k):fW g o k=if b=true then (eR o:Int) else -1:=by
 unfold fW;rw[h];unfold opB;rw[Bool.and_comm]
theorem vchk_ops (t r n:Int) (v:List Int) (ut ur:Int) (ops:List Gop) (dA:Option Addr) (dc:Nat) (oA:Option Addr) (oc:Nat) (w:World) (hl:v.length<=dc) (hc:dc<=9223372036854775807) (hn:i63 n) (hD:VecR w dA v) (hh:gC ⟨⟨t,r⟩,n,v,⟨ut,ur⟩,ops⟩=true) (hu:Gst.eqb ⟨ut,ur⟩ ⟨0,0⟩=true) (h1:1<=ops.length) (h2:ops.length<=200) (S:Nat->Prop) (hO:OpsS w S oA ops) (hTx:∀o∈ops,o.text.size<=1000000) (z:Int) (hz:z=if opsB ⟨t,r⟩ ops 0=true then 0 else 80) (hvz:z≠80):
  Calls Tryz.prog 54 #[.agg #[t,r,n,.slice dA v.length dc,ut,ur,.slice oA ops.length oc]] w λe w'=>e= .returned (.int .i64 z)∧Below w.heap.size w w':=by
 have HO:=hid hO;have HTx:=hid hTx;have HZ:=hid hz;have HVT:=hid hvz;clear hvz;have H1:=hid h1;have H2:=hid h2;clear hO hTx hz h1 h2;obtain⟨hR,h1,h2,hV,h3⟩:=v9head_parts hh;have hn2:=hn;unfold i63 at hn2;obtain⟨W,hW⟩:∃W,W=w.alloc (.cells #[t,r,n,.slice dA v.length dc,ut,ur,.slice oA ops.length oc] 45):=⟨_,rfl⟩;have hBW:Below w.heap.size w W:=by subst hW;exact(ag _ _).alloc (aa _) _
 have hD2:=hD.below hBW;have hA:W.heap[w.heap.size]? =some (.cells #[t,r,n,.slice dA v.length dc,ut,ur,.slice oA ops.length oc] 45 (0,0)):=by subst hW;exact am _ _
 have x0:=rg0 hA;have x1:=rg1 hA;have x2:=rg2 hA;have x3:=rg3 hA;have cR:=λd os=>ay (gw t r (grow (redrawn W d) os));have cV:=λd os=>ay (refvector_any dA dc v (grow (redrawn W d) os) hl (by omega) (hD2.regrown d os));have cA:=λd os=>Calls.regrown_same (fh dA dc v r (grow (redrawn W d) os) (by omega) (hD2.regrown d os));have HW:=hid hW;have HA:=hid hA;have HBW:=hid hBW;clear hA hD2 hW hBW;rw[hR] at cR;rw[hV] at cV;have t1:decide (n<1)=false:=aE (by omega);have s1:¬n<1:=by omega
 have t2:decide (1099511627776<n)=false:=aE (by omega);have s2:¬1099511627776<n:=by omega
 have hw:IntKind.i64.wrap (n-1)=n-1:=ds _ (by omega);have HD:=hid hD;rw[h3] at cA;have t3:(n-1 == n-1)=true:=beq_self_eq_true _;have t4:(n-1 != n-1)=false:=by rw[bne_eq_false_iff_eq]
 have hne:=ne_st ut ur 0 0 true hu;clear hh h3 hV hR hl hc hn hn2 hD hu h1 h2;go_enter Tryz.func54,Tryz.ntmps54;go_upto_region 1 with fail;rw[<-HW.out];refine rqb ?_
 repeat(any_goals(first|go_big_quiet_step (with_reducible first|exact cR _ _|exact cV _ _|exact cA _ _)|quiet_step (with_reducible first|exact cR _ _|exact cV _ _|exact cA _ _)))
 refine qz λwq hBq=> ?_;have HA2:=bK hBq HA;have HB2:=bT HBW hBq;clear hBq x0 x1 x2 x3 cR cV cA t1 t2 s1 s2 hw t3 t4 HW HA HBW;have r0:=cw0 HA2.out;have r1:=cw1 HA2.out;have r2:=cw2 HA2.out;have r3:=cw3 HA2.out;have r4:=cw4 HA2.out;have r5:=cw5 HA2.out;have r6:=cw6 HA2.out;have b1:decide (ops.length<1)=false:=by rw[aU];have:=H1.out;omega
 have b2:¬(ops.length:Int)<1:=by have:=H1.out;omega
 have b3:decide (200<ops.length)=false:=by rw[aU];have:=H2.out;omega
 have b4:¬200<(ops.length:Int):=by have:=H2.out;omega
 have b5:decide (ops.length=0)=false:=by rw[aU];have:=H1.out;omega
 have b6:decide (0<ops.length)=true:=by rw[ak];have:=H1.out;omega
 have b7:¬ops=[]:=by intro e;have:=H1.out;rw[e] at this;simp at this
 go_upto_region 11 with(fail);clear b1 b2 b3 b4 b5 b6 b7 hne;go_loopw [3,4] (λk i wr=>∃j kk:Nat,j<=ops.length∧i= .int .i64 j∧k= .int .i64 kk∧kk<=2000*j∧Hid (opsB ⟨t,r⟩ ops 0=opsB ⟨t,r⟩ (ops.drop j) kk)∧Hid (Below w.heap.size w wr)∧Hid (wr.heap[w.heap.size]? =some (.cells #[t,r,n,.slice dA v.length dc,ut,ur,.slice oA ops.length oc] 45 (0,0)))) (λ_ i _=>ops.length-(RowKit.intOf i).toNat)
 case atStart=>exact⟨0,0,by omega,rfl,rfl,by omega,hid rfl,HB2,HA2⟩
 case round=>
  clear r0 r1 r2 r3 r4 r5 r6;obtain⟨j,kk,hj,rfl,rfl,hkk,HK,HBr,HAr⟩:=hrel;have r6:=cw6 HAr.out;by_cases hjl:j<ops.length
  ·have hl1:(j:Int)<(ops.length:Int):=by omega
   have hl2:decide ((j:Int)<(ops.length:Int))=true:=aN hl1;go_upto_region 13 with fail;obtain⟨X,hX1,hX2⟩:=OpsS.agr HO.out (Agr.below HBr.out);obtain⟨ob,oo,rfl,hS,hob,hc⟩:=hX1 j hjl;have hIn:=hX2 j hjl;obtain⟨o,ho⟩:∃o,o=ops.getD j (opO 0 .zero):=⟨_,rfl⟩;obtain⟨x,hx⟩:∃x,x=X j:=⟨_,rfl⟩;rw[<-ho] at hIn;simp only[<-ho,<-hx] at hIn hc;have hot:o.text.size<=1000000:=HTx.out o (by rw[ho];simp[List.getD,hjl]);have HST:=hid (show opsB ⟨t,r⟩ (ops.drop j) kk=(opB ⟨t,r⟩ o kk && opsB ⟨t,r⟩ (ops.drop (j+1)) (kk+eR o)) by rw[ho];exact opsB_step (g:=⟨t,r⟩) (k:=kk) hjl (opO 0 .zero));have hmo:=λh=>more_le (g:=⟨t,r⟩) (o:=o) (k:=kk) h;obtain⟨bb,hbb⟩:∃m,m=opB ⟨t,r⟩ o kk:=⟨_,rfl⟩;have hbt:opB ⟨t,r⟩ o kk=true:=by
    have h8:opsB ⟨t,r⟩ ops 0=true:=by
     cases h7:opsB ⟨t,r⟩ ops 0 with
     |true=>rfl
     |false=>exact absurd (by rw[HZ.out,h7];rfl) HVT.out
    have h9:=HST.out;rw[<-HK.out,h8] at h9;exact(eG.1 h9.symm).1
   have hOp:=λd os=>ay (vop_any t r n dA v.length dc ut ur (some ⟨ob,oo,none⟩) ops.length oc kk o x S (grow (redrawn wr d) os) (hIn.agr (Agr.below (bE wr d os))) hot hbt);rw[v9refV_opB bb hbb] at hOp;obtain⟨mo,hmo2⟩:∃m,m=eR o:=⟨_,rfl⟩;simp only[<-hmo2,<-hbb] at hOp hmo;have HST2:Hid (opsB ⟨t,r⟩ (ops.drop j) kk=(bb && opsB ⟨t,r⟩ (ops.drop (j+1)) (kk+mo))):=hid (by rw[hbb,hmo2];exact HST.out);have HRR:=hid (eT (jw hc));obtain⟨opl,hol⟩:∃l,l=opL o x:=⟨_,rfl⟩;rw[<-hol] at HRR;have HNL:=hid (show(Tryz.prog.info? 125).map (·.size)=some opl.length by rw[hol];kernel_rfl);clear hbt HST hmo2 hbb ho hx hIn hot hX1 hX2 hc r6;have HMo:=hid hmo;clear hmo;have HOL:=hid (show(.agg opl.toArray:Value)= .agg (opA o x) by rw[hol];rfl);clear hol;have x0:=rg0 HAr.out;have x1:=rg1 HAr.out;have x2:=rg2 HAr.out;have x3:=rg3 HAr.out;have x4:=rg4 HAr.out;have x5:=rg5 HAr.out;have x6:=rg6 HAr.out;have hwk:IntKind.i64.wrap ((j:Int)+1)=(j:Int)+1:=ds _ (by have:=H2.out;omega);have hix:j<ops.length:=hjl;cases bb with
   |false=>
    obtain rfl:z=80:=by rw[HZ.out,HK.out,HST2.out];rfl
    exact absurd rfl HVT.out
   |true=>
    simp only[fy] at hOp;have hwm:IntKind.i64.wrap ((kk:Int)+(mo:Int))=(kk:Int)+(mo:Int):=ds _ (by have:=H2.out;have:=HMo.out rfl;omega);have m1:¬(mo:Int)<0:=by omega
    have m2:decide ((mo:Int)<0)=false:=aE m1;refine rqb ?_
    repeat(any_goals(first|(refine eI rfl _ _ rfl ob (oo+j*18) rfl opl _ HRR.out az rfl HNL.out ?_;rw[HOL.out])|go_big_quiet_step (with_reducible exact hOp _ _)|quiet_step (with_reducible exact hOp _ _)))
    refine wpQuiet_nil ?_;intro _ hw';obtain⟨⟨dq,osq⟩,hw''⟩:=hw';subst hw'';have hBq:=bE wr dq osq;generalize grow (redrawn wr dq) osq=wq2 at *;have HA3:=bK hBq HAr;have HB3:=bT HBr hBq;clear hBq hOp x0 x1 x2 x3 x4 x5 x6;go_wp2;go_roundw
    case rel=>exact⟨j+1,kk+mo,by omega,by go_num,by go_num,by have:=HMo.out rfl;omega,hid (by rw[HK.out,HST2.out];rfl),HB3,HA3⟩
    case measure=>simp[RowKit.intOf];omega
  ·obtain rfl:j=ops.length:=by omega
   obtain rfl:z=0:=by rw[HZ.out,HK.out,List.drop_length];rfl
   go_wp2;go_ret;exact⟨rfl,HBr.out⟩
theorem vchk_any (g:Grp) (dA:Option Addr) (dc:Nat) (oA:Option Addr) (oc:Nat) (S:Nat->Prop) (w:World) (hI:GrIn w S g dA dc oA oc) (hTx:g.ops.length<=200->∀o∈g.ops,o.text.size<=1000000) (hck:chkB g=true):
  Calls Tryz.prog 54 #[.agg (grA g dA dc oA oc)] w λe w'=>e= .returned (.int .i64 (if chkB g=true then 0 else 80))∧Below w.heap.size w w':=by
 obtain⟨⟨t,r⟩,n,v,⟨ut,ur⟩,ops⟩:=g;have hl:=hI.dle;have hc:dc<=9223372036854775807:=by have:=hI.dmax;simp only[maxLen] at this;omega
 have hn:=hI.nin;have hD:=hI.deps.vec;simp only at hl hn hD hTx;rw[hck,aJ rfl];have h9:=hck;simp only[chkB,ap] at h9;obtain⟨hh,h9⟩:=h9;cases hu:Gst.eqb ⟨ut,ur⟩ ⟨0,0⟩ with
 |false=>
  refine vchk_undo t r n v ut ur ops dA dc oA oc w hl hc hn hD hh hu 0 ?_ (by decide);rw[aC (by rw[show Gst.eqb ⟨ut,ur⟩ .zero=false from hu];decide)] at h9;rw[aJ h9]
 |true=>
  rw[aJ (show Gst.eqb ⟨ut,ur⟩ .zero=true from hu)] at h9;simp only[ap,ak] at h9;refine vchk_ops t r n v ut ur ops dA dc oA oc w hl hc hn hD hh hu h9.1.1 h9.1.2 S hI.ops (hTx h9.1.2) 0 ?_ (by decide);rw[aJ h9.2]
end
section
open Go.RowKit Go.Lib
section
variable {w : World} {g i : Nat} {T : TypeId} {fr : Nat × Nat} {c : Array Value} {v : Value}
theorem tk {P:Program} {md:Region.Mode} {ops:Array Oper} {Q:Exit->Act->World->Prop} {S:World->Prop} (i:Nat) (v:Value) {oi:Oper} {fuel:Nat} {listed:Array Bool} {a:Act} (hS:S w)
  (h:wpAnyH P md ops Q S fuel (listed.setIfInBounds i true) (a.put oi.dst v) w) (hi:ops[i]? =some oi:=by rfl)
  (hs:Region.noSelect ops=true:=by kernel_rfl) (hf:Region.free md ops listed i=true:=by kernel_rfl) (hr:(Region.ready md ops listed).contains i=true:=by kernel_rfl)
  (hQ:∀c a w,Q (.panic c) (a.put oi.dst v) w->Q (.panic c) a w:=by exact λ_ _ _ h=>h) (hy:YieldsIf P ops S oi v a:=by exact Or.inl ⟨by rfl,λW' hW'=>by go_simp⟩):wpAnyH P md ops Q S (fuel+1) listed a w:=
 wpAnyH_take hi hs hf hr hQ hy hS h
end
end
section
open Go.RowKit Go.Lib Go.Sort
structure GrB (O:Nat->Prop) (w w':World):Prop where
 os:w'.os=w.os
 tape:w'.tape=w.tape
 output:w'.output=w.output
 size:w.heap.size<=w'.heap.size
 block:∀i,i<w.heap.size->¬O i->w'.heap[i]? =w.heap[i]?
section
variable {O O1 : Nat → Prop} {w w1 w2 : World}
theorem GrB.trans (h:GrB O w w1) (k:GrB O1 w1 w2) (hO:∀i,i<w.heap.size->O1 i->O i):GrB O w w2:=
 ⟨k.os.trans h.os,k.tape.trans h.tape,k.output.trans h.output,aL h.size k.size,λi hi hn=>(k.block i (bC hi h.size) (λe=>hn (hO i hi e))).trans (h.block i hi hn)⟩
theorem GrB.of_grown {r:Option Nat} (h:w.grownBy w1 r) (hr:∀g,r=some g->g<w.heap.size->O g):GrB O w w1:=⟨h.os,h.tape,h.output,h.size,λi hi hn=>h.block i hi (λe=>hn (hr i e.symm hi))⟩
theorem GrB.of_below (h:Below w.heap.size w w1):GrB O w w1:=⟨h.os,h.tape,h.output,h.size,λi hi _=>h.block i hi⟩
theorem GrB.below {n:Nat} (h:GrB O w w1) (hn:n<=w.heap.size) (hO:∀i,O i->n<=i):Below n w w1:=⟨h.os,h.tape,h.output,h.size,λi hi=>h.block i (bC hi hn) (λe=>by have:=hO i e;omega)⟩
theorem GrB.agr {S:Nat->Prop} (h:GrB O w w1) (hS:∀i,i<w.heap.size->S i->¬O i):Agr S w w1:=⟨h.size,λb hb hl=>h.block b hl (hS b hl hb)⟩
theorem GrB.set (h:GrB O w w1) (b o:Nat) (v:Value) (hb:b<w.heap.size->O b):GrB O w (w1.setCell ⟨b,o,none⟩ v):=
 h.trans (O1:=λi=>i=b) (GrB.of_grown (eF b o v) (λg e _=>by cases e;rfl)) (λi hi e=>by subst e;exact hb hi)
theorem GrB.grown (h:GrB O w w1) {r:Option Nat} (k:w1.grownBy w2 r) (hr:∀g,r=some g->g<w.heap.size->O g):GrB O w w2:=
 h.trans (O1:=λi=>r=some i) (GrB.of_grown k (λg e _=>e)) (λi hi e=>hr i e hi)
end
def grL (g:Grp) (x:GrX):List Value:=[.int .i64 g.s.t,.int .i64 g.s.r,.int .i64 g.n,.slice x.dA g.deps.length x.dc,.int .i64 g.u.t,.int .i64 g.u.r,.slice x.oA g.ops.length x.oc]
def grC_ (p:Grp×GrX):List Value:=grL p.1 p.2
theorem kD (xs:List (Grp×GrX)):(xs.flatMap grC_).length=xs.length*7:=by
 induction xs with
 |nil=>rfl
 |cons x xs ih=>rw[cW,al,ih,bG];show 7+_=_;omega
theorem iO (x:Grp×GrX):∀u∈grC_ x,u.oneCell'=true:=fw (c:=(grL x.1 x.2).toArray) rfl
theorem ia:(Tryz.prog.info? 45).map (λi=>(i.zero,i.size,i.bytes))=some (some (.agg #[(0:Int),(0:Int),(0:Int),.slice none 0 0,(0:Int),(0:Int),.slice none 0 0]),7,88):=by kernel_rfl
def GrG (w:World) (S:Nat->Prop) (p:Grp×GrX):Prop:=GrIn w S p.1 p.2.dA p.2.dc p.2.oA p.2.oc
theorem GrG.agr {w w':World} {S:Nat->Prop} {p:Grp×GrX} (h:GrG w S p) (ha:Agr S w w'):GrG w' S p:=GrIn.agr h ha
theorem GrG.sub {w:World} {S T:Nat->Prop} {p:Grp×GrX} (h:GrG w S p) (hs:∀b,b<w.heap.size->S b->T b):GrG w T p:=GrIn.sub h hs
def gp0:Grp×GrX:=(gz,⟨none,0,none,0⟩)
def RowGr (w:World) (A:Option Addr) (L:List (Grp×GrX)):Prop:=RowG w (λ_=>True) A L.length 7 (λk j=>(grL (L.getD k gp0).1 (L.getD k gp0).2).getD j undef)
theorem RowGr.range {w:World} {A:Option Addr} {L:List (Grp×GrX)} (h:RowGr w A L) {k:Nat} (hk:k<L.length):∃b o,A=some ⟨b,o,none⟩∧b<w.heap.size∧w.rangeAt b (o+k*7) (grL (L.getD k gp0).1 (L.getD k gp0).2):=by
 obtain⟨b,o,e,-,hb,hc⟩:=h k hk;refine⟨b,o,e,hb,λj v hv=> ?_⟩;have hj:j<7:=(ep.1 hv).1;rw[hc j hj];show some ((grL (L.getD k gp0).1 (L.getD k gp0).2).getD j undef)=some v;rw[ae,hv];rfl
theorem RowGr.own {w:World} {B:Nat} {A:Option Addr} {c:Nat} {L:List (Grp×GrX)} {E:TypeId} (h:w.ownsRow B E 7 (.slice A L.length c) L.length (L.flatMap grC_)):RowGr w A L:=by
 refine RowG.sub (jU h λk j hk hj=> ?_) λ_ _ _=>trivial;rw[gG (s:=7) (λ_=>rfl) L k j gp0 hk hj];generalize L.getD k gp0=p;have:j<(grC_ p).length:=hj;rw[an this,ae];show some _=some ((grC_ p)[j]?.getD undef);rw[an this];rfl
theorem RowGr.agr {w w':World} {A:Option Addr} {L:List (Grp×GrX)} (h:RowGr w A L) (ha:Agr (λ_=>True) w w'):RowGr w' A L:=RowG.agr h ha
theorem RowGr.below {w w':World} {A:Option Addr} {L:List (Grp×GrX)} (h:RowGr w A L) (ha:Below w.heap.size w w'):RowGr w' A L:=RowG.agr h (Agr.below ha)
structure BoxX where
 dv:Value
 wv:Value
 vA:Option Addr
 vc:Nat
 bm:Nat
 L:List (Grp×GrX)
 M:List (Grp×GrX)
theorem gY {S:Nat->Prop} (w:World) (g i:Nat) (v:Value) (h:¬S g):Agr S w (w.setCell ⟨g,i,none⟩ v):=⟨by simp[World.setCell],λb hb _=>cK _ _ _ _ (λe:b=g=>h (e ▸ hb))⟩
section
variable {B P : Nat} {S S' S'' : Nat → Prop} {dn mp wt : List Grp} {v : List Int} {X X' X'' : BoxX} {w w' w'' : World}
theorem gI {w:World} {P:Nat} {c c':Array Value} {T:TypeId} (h:w.heap[P]? =some (.cells c T (0,0))) (i:Nat) (u:Value) (hc:c.setIfInBounds i u=c'):(w.setCell ⟨P,i,none⟩ u).heap[P]? =some (.cells c' T (0,0)):=by
 simp[World.setCell,cx,h,hc]
theorem gJ {w:World} {B E s n:Nat} {u:Value} {xs:List Value} (h:w.ownsRow B E s u n xs) {P:Nat} (hu:u.ownBlock≠some P) (i:Nat) (x:Value):(w.setCell ⟨P,i,none⟩ x).ownsRow B E s u n xs:=
 h.kept (eF P i x) (.inr hu)
theorem kept_or {a b:Option Nat} (h:∀g,a=some g->b≠some g):b=none∨b≠a:=by
 cases b with
 |none=>exact .inl rfl
 |some g=>exact .inr λe=>h g e.symm rfl
end
theorem covers_any (A B:Option Addr) (c d:Nat) (v u:List Int) (w:World) (hv:v.length<=9223372036854775806) (hu:u.length<=9223372036854775806) (hA:VecR w A v) (hB:VecR w B u):
  Calls Tryz.prog 98 #[.slice A v.length c,.slice B u.length d] w λe w'=>e= .returned (.bool (covB v u))∧w'=w:=by
 obtain⟨ans,hans⟩:∃r,r=covB v u:=⟨_,rfl⟩;rw[<-hans];obtain⟨m,hm⟩:∃m,m=max v.length u.length:=⟨_,rfl⟩;have HANS:=hid (show ans=i8 m λr=>decide (u.getD r 0<=v.getD r 0) by rw[hans,hm];rfl);have hm2:=hid hm;have hml:m<=9223372036854775806:=by omega
 have CA:=hid (λr=>at_any A c v r w (by omega) hA);have CB:=hid (λr=>at_any B d u r w (by omega) hB);clear hans hm hA hB;go_enter Tryz.func98,Tryz.ntmps98;by_cases hlt0:(v.length:Int)<(u.length:Int)
 all_goals
  go_wp2_with fail
  first
   |rw[show max (v.length:Int) (u.length:Int)=(m:Int) from by have:=hm2.out;omega]
   |rw[show(u.length:Int)=(m:Int) from by have:=hm2.out;omega]
   |rw[show(v.length:Int)=(m:Int) from by have:=hm2.out;omega]
  clear hlt0;go_loop [11] (λi=>∃k:Nat,i= .int .i64 k∧k<=m∧Hid (∀j,j<k->decide (u.getD j 0<=v.getD j 0)=true)) (λi=>m-(RowKit.intOf i).toNat)
  case atStart=>exact⟨0,rfl,aq _,hid (λj hj=>absurd hj (cG j))⟩
  case round=>
   obtain⟨k,rfl,hk,HK⟩:=hrel;by_cases hlt:k<m
   ·have i1:(k:Int)<(m:Int):=by omega
    have ha:atV v ((k:Int)+1)=v.getD k 0:=kG;have hb:atV u ((k:Int)+1)=u.getD k 0:=kG;have CA1:=hid (CA.out ((k:Int)+1));have CB1:=hid (CB.out ((k:Int)+1));rw[ha] at CA1;rw[hb] at CB1;obtain⟨x,hx⟩:∃x,x=v.getD k 0:=⟨_,rfl⟩;obtain⟨y,hy⟩:∃y,y=u.getD k 0:=⟨_,rfl⟩;rw[<-hx] at CA1;rw[<-hy] at CB1;have HX:=hid hx;have HY:=hid hy;clear ha hb hx hy;by_cases hle:y<=x
    ·have t1:¬x<y:=by omega
     have t2:decide (x<y)=false:=aE t1;have HK2:=hid (show ∀j,j<k+1->decide (u.getD j 0<=v.getD j 0)=true from λj hj=>if h:j<k then HK.out j h else (by(obtain rfl:j=k:=(by omega));rw[<-HX.out,<-HY.out];exact aN hle));go_wp2_with fail;refine CA1.out.mono ?_;rintro e w1 ⟨rfl,rfl⟩;go_wp2_with fail;refine CB1.out.mono ?_;rintro e w1 ⟨rfl,rfl⟩;go_wp2;go_round
     case rel=>exact⟨k+1,by go_num,by omega,HK2⟩
     case measure=>simp[RowKit.intOf];omega
    ·have t1:x<y:=by omega
     have t2:decide (x<y)=true:=aN t1;obtain rfl:ans=false:=by rw[HANS.out];exact fl hlt (by rw[<-HX.out,<-HY.out];exact aE hle)
     go_wp2_with fail;refine CA1.out.mono ?_;rintro e w1 ⟨rfl,rfl⟩;go_wp2_with fail;refine CB1.out.mono ?_;rintro e w1 ⟨rfl,rfl⟩;go_wp2;go_ret;exact⟨rfl,rfl⟩
   ·obtain rfl:k=m:=by omega
    obtain rfl:ans=true:=by rw[HANS.out];exact ed HK.out
    have i2:¬(k:Int)<(k:Int):=by omega
    go_wp2;go_ret;exact⟨rfl,rfl⟩
theorem refcovers_any (A B:Option Addr) (c d:Nat) (v u:List Int) (w:World) (hv:v.length<=9223372036854775800) (hu:u.length<=9223372036854775800) (hA:VecR w A v) (hB:VecR w B u):
  Calls Tryz.prog 38 #[.slice A v.length c,.slice B u.length d] w λe w'=>e= .returned (.bool (covB v u))∧w'=w:=by
 obtain⟨ans,hans⟩:∃r,r=covB v u:=⟨_,rfl⟩;rw[<-hans];obtain⟨m,hm⟩:∃m,m=max v.length u.length:=⟨_,rfl⟩;have HANS:=hid (show ans=i8 m λr=>decide (u.getD r 0<=v.getD r 0) by rw[hans,hm];rfl);have hml:m<=9223372036854775806:=by omega
 have HM:=hid hm;have CA:=hid (λr=>fh A c v r w (by omega) hA);have CB:=hid (λr=>fh B d u r w (by omega) hB);clear hans hm hA hB;go_enter Tryz.func38,Tryz.ntmps38;by_cases hlt0:(v.length:Int)<(u.length:Int)
 all_goals
  go_wp2_with fail;go_loop [5] (λi=>∃k:Nat,i= .int .i64 ((k:Int)+1)∧k<=m∧Hid (∀j,j<k->decide (u.getD j 0<=v.getD j 0)=true)) (λi=>m+1-(RowKit.intOf i).toNat)
  case atStart=>exact⟨0,by go_num,aq _,hid (λj hj=>absurd hj (cG j))⟩
  case round=>
   obtain⟨k,rfl,hk,HK⟩:=hrel;by_cases hlt:k<m
   ·have i1:(k:Int)+1<=(u.length:Int)∨(k:Int)+1<=(v.length:Int):=by have:=HM.out;omega
    have i2:(k:Int)+1<=(m:Int):=by omega
    have ha:atV v ((k:Int)+1)=v.getD k 0:=kG;have hb:atV u ((k:Int)+1)=u.getD k 0:=kG;have CA1:=hid (CA.out ((k:Int)+1));have CB1:=hid (CB.out ((k:Int)+1));rw[ha] at CA1;rw[hb] at CB1;obtain⟨x,hx⟩:∃x,x=v.getD k 0:=⟨_,rfl⟩;obtain⟨y,hy⟩:∃y,y=u.getD k 0:=⟨_,rfl⟩;rw[<-hx] at CA1;rw[<-hy] at CB1;have HX:=hid hx;have HY:=hid hy;have tU:(v.length:Int)<(u.length:Int)->(k:Int)+1<=(u.length:Int):=λh=>by omega
    have tV:¬(v.length:Int)<(u.length:Int)->(k:Int)+1<=(v.length:Int):=λh=>by omega
    first
     |(have tt:=tU hlt0)
     |(have tt:=tV (Int.not_lt.2 hlt0))
    have td:=aN tt;clear ha hb hx hy i1 tU tV;by_cases hle:y<=x
    ·have t1:¬x<y:=by omega
     have t2:decide (x<y)=false:=aE t1;have HK2:=hid (show ∀j,j<k+1->decide (u.getD j 0<=v.getD j 0)=true from λj hj=>if h:j<k then HK.out j h else (by(obtain rfl:j=k:=(by omega));rw[<-HX.out,<-HY.out];exact aN hle));go_wp2_with fail;refine CA1.out.mono ?_;rintro e w1 ⟨rfl,rfl⟩;go_wp2_with fail;refine CB1.out.mono ?_;rintro e w1 ⟨rfl,rfl⟩;go_wp2;go_round
     case rel=>exact⟨k+1,by go_num,by omega,HK2⟩
     case measure=>simp[RowKit.intOf];omega
    ·have t1:x<y:=by omega
     have t2:decide (x<y)=true:=aN t1;obtain rfl:ans=false:=by rw[HANS.out];exact fl hlt (by rw[<-HX.out,<-HY.out];exact aE hle)
     go_wp2_with fail;refine CA1.out.mono ?_;rintro e w1 ⟨rfl,rfl⟩;go_wp2_with fail;refine CB1.out.mono ?_;rintro e w1 ⟨rfl,rfl⟩;go_wp2;go_ret;exact⟨rfl,rfl⟩
   ·obtain rfl:k=m:=by omega
    obtain rfl:ans=true:=by rw[HANS.out];exact ed HK.out
    have tU:(v.length:Int)<(u.length:Int)->¬(k:Int)+1<=(u.length:Int):=λh=>by have:=HM.out;omega
    have tV:¬(v.length:Int)<(u.length:Int)->¬(k:Int)+1<=(v.length:Int):=λh=>by have:=HM.out;omega
    first
     |(have tt:=tU hlt0)
     |(have tt:=tV (Int.not_lt.2 hlt0))
    have td:=aE tt;clear tU tV;go_wp2;go_ret;exact⟨rfl,rfl⟩
end
end Go.Proofs.YtkhmicndehlneaaGreatDoor
