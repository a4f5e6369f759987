/- Part 7 of the walks and plain laws that this claim uses, joined. Conditions: as each theorem states. -/
import Derived.Test.YtkhmicndehlneaaGreatDoorShelf
import Derived.Test.YtkhmicndehlneaaGreatDoorYbd
import Derived.Test.YtkhmicndehlneaaGreatDoorYbf
namespace Go.Proofs.YtkhmicndehlneaaGreatDoor
set_option maxRecDepth 100000
set_option maxHeartbeats 16000000
set_option linter.unusedVariables false
section
open Go.RowKit Go.Lib Go.Sort
attribute [local go_sem ↓] Go.wp_at_zero Go.wp_at_succ
def fW (g:Gst) (o:Gop) (k:Nat):Int:=if (de g o k && cr o)=true then (eR o:Int) else -1
theorem dN {g:Gst} {o:Gop} {k:Nat} (h:(de g o k && cr o)=false):fW g o k= -1:=by unfold fW;rw[h];rfl
theorem fo {g:Gst} {o:Gop} {k:Nat} (h:(de g o k && cr o)=true):fW g o k=(eR o:Int):=by unfold fW;rw[h];rfl
theorem iz {W:World} {b:Nat} {T:TypeId} {cs:List Value} (h:W.heap[b]? =some (.cells cs.toArray T (0,0))):W.rangeAt b 0 cs:=λj v hv=>by
 rw[bN,aD _ _ _ _ _ _ h]
 simpa using hv
theorem vop_0 (gt gr:Int) (n':Int) (dA':Option Addr) (dn' dc':Nat) (ut ur:Int) (oA:Option Addr) (on oc:Nat) (k:Nat) (nt nr ni pt pr pi:Int) (name:ByteArray) (dir:Bool) (dots:List Gst) (at_ ar ai et er ei:Int) (text:ByteArray) (elems:List Gid) (dA:Option Addr) (dc:Nat) (eA:Option Addr) (ec:Nat) (S:Nat->Prop) (w:World) (hn:name.size<=9223372036854775807) (hdl:dots.length<=9223372036854775807) (hel:elems.length<=9223372036854775807) (hD:StsS w S dA dots) (hE:IdsS w S eA elems) (hvt:(de ⟨gt,gr⟩ (⟨0,⟨⟨nt,nr⟩,ni⟩,⟨⟨pt,pr⟩,pi⟩,name,dir,dots,⟨⟨at_,ar⟩,ai⟩,⟨⟨et,er⟩,ei⟩,text,elems⟩:Gop) k && cr (⟨0,⟨⟨nt,nr⟩,ni⟩,⟨⟨pt,pr⟩,pi⟩,name,dir,dots,⟨⟨at_,ar⟩,ai⟩,⟨⟨et,er⟩,ei⟩,text,elems⟩:Gop))=true):
  Calls Tryz.prog 104 #[.agg #[gt,gr,n',.slice dA' dn' dc',ut,ur,.slice oA on oc],.agg #[(0:Int),nt,nr,ni,pt,pr,pi,name,dir,.slice dA dots.length dc,at_,ar,ai,et,er,ei,text,.slice eA elems.length ec],.int .i64 k] w λe w'=>e= .returned (.int .i64 (fW ⟨gt,gr⟩ (⟨0,⟨⟨nt,nr⟩,ni⟩,⟨⟨pt,pr⟩,pi⟩,name,dir,dots,⟨⟨at_,ar⟩,ai⟩,⟨⟨et,er⟩,ei⟩,text,elems⟩:Gop) k))∧Below w.heap.size w w':=by
 obtain⟨f,g⟩:∃v,v=fW ⟨gt,gr⟩ (⟨0,⟨⟨nt,nr⟩,ni⟩,⟨⟨pt,pr⟩,pi⟩,name,dir,dots,⟨⟨at_,ar⟩,ai⟩,⟨⟨et,er⟩,ei⟩,text,elems⟩:Gop) k:=⟨_,rfl⟩;rw[<-g];have i:=hid (show f≠ -1 from by rw[g,fo hvt];omega);have z:cr (⟨0,⟨⟨nt,nr⟩,ni⟩,⟨⟨pt,pr⟩,pi⟩,name,dir,dots,⟨⟨at_,ar⟩,ai⟩,⟨⟨et,er⟩,ei⟩,text,elems⟩:Gop)=true:=(eG.1 hvt).2;obtain⟨E,m⟩:∃b,b=cr (⟨0,⟨⟨nt,nr⟩,ni⟩,⟨⟨pt,pr⟩,pi⟩,name,dir,dots,⟨⟨at_,ar⟩,ai⟩,⟨⟨et,er⟩,ei⟩,text,elems⟩:Gop):=⟨_,rfl⟩;have A:=hid m
 have B:=hid (show ∀W,Calls Tryz.prog 160 #[.agg #[(0:Int),nt,nr,ni,pt,pr,pi,name,dir,.slice dA dots.length dc,at_,ar,ai,et,er,ei,text,.slice eA elems.length ec],true,true,false,false,false] W λe w'=>e= .returned (.bool E)∧Below W.heap.size W w' from λW=>by
  refine(vbare_0 0 nt nr ni pt pr pi name dir dA dots.length dc at_ ar ai et er ei text eA elems.length ec W (Eq.trans (b:=cr (⟨0,⟨⟨nt,nr⟩,ni⟩,⟨⟨pt,pr⟩,pi⟩,name,dir,dots,⟨⟨at_,ar⟩,ai⟩,⟨⟨et,er⟩,ei⟩,text,elems⟩:Gop)) (by simp[cr,ff]) z)).mono ?_;rintro e w' ⟨rfl,M⟩;refine⟨?_,M⟩;congr 2;rw[m]
  simp[cr,ff])
 have u:Hid (de ⟨gt,gr⟩ (⟨0,⟨⟨nt,nr⟩,ni⟩,⟨⟨pt,pr⟩,pi⟩,name,dir,dots,⟨⟨at_,ar⟩,ai⟩,⟨⟨et,er⟩,ei⟩,text,elems⟩:Gop) k=(Gid.eqb ⟨⟨nt,nr⟩,ni⟩ ⟨⟨gt,gr⟩,(k:Int)⟩ && du ⟨gt,gr⟩ ⟨⟨pt,pr⟩,pi⟩ k && ek name)):=hid (by simp[de]);have F:Hid ((eR (⟨0,⟨⟨nt,nr⟩,ni⟩,⟨⟨pt,pr⟩,pi⟩,name,dir,dots,⟨⟨at_,ar⟩,ai⟩,⟨⟨et,er⟩,ei⟩,text,elems⟩:Gop):Int)=1):=hid (by simp[eR]);have a:=hid g;clear hvt z g m;go_enter Tryz.func104,Tryz.ntmps104;go_upto_region 2 with fail;generalize hW:(((w.alloc (.cells #[gt,gr,n',.slice dA' dn' dc',ut,ur,.slice oA on oc] 45)).alloc (.cells #[(0:Int),nt,nr,ni,pt,pr,pi,name,dir,.slice dA dots.length dc,at_,ar,ai,et,er,ei,text,.slice eA elems.length ec] 125)).alloc (.cells #[gt,gr,.int .i64 k] 108))=W;have h:=hid (show W.heap[w.heap.size]? =some (.cells #[gt,gr,n',.slice dA' dn' dc',ut,ur,.slice oA on oc] 45 (0,0)) by rw[<-hW];exact(ax _ _ _ (by simp;omega)).trans ((ax _ _ _ (by simp)).trans (am _ _)));have c:=hid (show W.heap[w.heap.size+1]? =some (.cells #[(0:Int),nt,nr,ni,pt,pr,pi,name,dir,.slice dA dots.length dc,at_,ar,ai,et,er,ei,text,.slice eA elems.length ec] 125 (0,0)) by rw[<-hW];exact(ax _ _ _ (by simp)).trans (cJ _ _ (by simp)));have x:=hid (show W.heap[w.heap.size+2]? =some (.cells #[gt,gr,.int .i64 k] 108 (0,0)) by rw[<-hW];exact cJ _ _ (by simp))
 have n:=hid (show Below w.heap.size w W by rw[<-hW];exact(((ag _ _).alloc (aa _) _).alloc (by simp) _).alloc (by simp;omega) _);clear hW;have N:=cw0 c.out;go_upto_region 4 with fail;clear N;have C:=n.out;have Q:=rg1 c.out;have R:=rg2 c.out;have T:=rg3 c.out;have U:=rg4 c.out;have V:=rg5 c.out;have X:=rg6 c.out;have Y:=rg7 c.out;have Z:=rg0 h.out;have y1:=rg1 h.out;have y2:=rg2 h.out;have y3:=rg3 h.out;have y4:=rg4 h.out;have y5:=rg5 h.out;have y6:=rg6 h.out;have z0:=rg0 x.out;have z1:=rg1 x.out;have z2:=rg2 x.out;obtain⟨o,j⟩:∃l:List Value,l=[.int .i64 0,.int .i64 nt,.int .i64 nr,.int .i64 ni,.int .i64 pt,.int .i64 pr,.int .i64 pi,.string name,.bool dir,.slice dA dots.length dc,.int .i64 at_,.int .i64 ar,.int .i64 ai,.int .i64 et,.int .i64 er,.int .i64 ei,.string text,.slice eA elems.length ec]:=⟨_,rfl⟩;have G:=hid j;have H:=hid (eT (show W.rangeAt (w.heap.size+1) 0 o by rw[j];exact iz c.out));have I:=hid (show(Tryz.prog.info? 125).map (·.size)=some o.length by rw[j];kernel_rfl);clear j;have p:=λd q=>ay (jP ⟨gt,gr⟩ ⟨n',dA',dn',dc',ut,ur,oA,on,oc⟩ ⟨⟨pt,pr⟩,pi⟩ k (grow (redrawn W d) q));have y:=λd q=>Calls.regrown_same (jI name (grow (redrawn W d) q) hn);have J:=λd q=>ay (B.out (grow (redrawn W d) q));simp only[gxV,idV] at p;clear C hD hE B hn hdl hel h c x;cases r:Gid.eqb ⟨⟨nt,nr⟩,ni⟩ ⟨⟨gt,gr⟩,(k:Int)⟩ with
 |false=>
  have O:=eJ nt nr ni gt gr k false r;obtain rfl:f= -1:=by rw[a.out];exact dN (by rw[u.out,r];simp)
  exact absurd rfl i.out
 | true=>
  have O:=eJ nt nr ni gt gr k true r;have D:=hid r;clear r;cases s:du ⟨gt,gr⟩ ⟨⟨pt,pr⟩,pi⟩ k with
  |false=>
   rw[s] at p;obtain rfl:f= -1:=by rw[a.out];exact dN (by rw[u.out,D.out,s];simp)
   exact absurd rfl i.out
  | true=>
   rw[s] at p;have K:=hid s;clear s;cases t:ek name with
   |false=>
    rw[t] at y;obtain rfl:f= -1:=by rw[a.out];exact dN (by rw[u.out,D.out,K.out,t];simp)
    exact absurd rfl i.out
   | true=>
    rw[t] at y;have P:=hid t;clear t;cases E with
    |false=>
     obtain rfl:f= -1:=by rw[a.out];exact dN (by rw[<-A.out];simp)
     exact absurd rfl i.out
    |true=>
     obtain rfl:f=1:=by rw[a.out,fo (by rw[<-A.out,u.out,D.out,K.out,P.out];simp),F.out]
     refine bF ?_
     repeat(any_goals(first|(refine eI rfl _ _ rfl (w.heap.size+1) 0 rfl o _ H.out az rfl I.out ?_;rw[G.out])|go_big_quiet_step (first|with_reducible exact p _ _|with_reducible exact y _ _|with_reducible exact J _ _)|quiet_step (first|with_reducible exact p _ _|with_reducible exact y _ _|with_reducible exact J _ _)))
     refine qz λwq L=> ?_;go_wp2;go_ret;exact⟨rfl,n.out.trans (L.mono n.out.size)⟩
theorem vop_1 (gt gr:Int) (n':Int) (dA':Option Addr) (dn' dc':Nat) (ut ur:Int) (oA:Option Addr) (on oc:Nat) (k:Nat) (nt nr ni pt pr pi:Int) (name:ByteArray) (dir:Bool) (dots:List Gst) (at_ ar ai et er ei:Int) (text:ByteArray) (elems:List Gid) (dA:Option Addr) (dc:Nat) (eA:Option Addr) (ec:Nat) (S:Nat->Prop) (w:World) (hn:name.size<=9223372036854775807) (hdl:dots.length<=9223372036854775807) (hel:elems.length<=9223372036854775807) (hD:StsS w S dA dots) (hE:IdsS w S eA elems) (hvt:(de ⟨gt,gr⟩ (⟨1,⟨⟨nt,nr⟩,ni⟩,⟨⟨pt,pr⟩,pi⟩,name,dir,dots,⟨⟨at_,ar⟩,ai⟩,⟨⟨et,er⟩,ei⟩,text,elems⟩:Gop) k && cr (⟨1,⟨⟨nt,nr⟩,ni⟩,⟨⟨pt,pr⟩,pi⟩,name,dir,dots,⟨⟨at_,ar⟩,ai⟩,⟨⟨et,er⟩,ei⟩,text,elems⟩:Gop))=true):
  Calls Tryz.prog 104 #[.agg #[gt,gr,n',.slice dA' dn' dc',ut,ur,.slice oA on oc],.agg #[(1:Int),nt,nr,ni,pt,pr,pi,name,dir,.slice dA dots.length dc,at_,ar,ai,et,er,ei,text,.slice eA elems.length ec],.int .i64 k] w λe w'=>e= .returned (.int .i64 (fW ⟨gt,gr⟩ (⟨1,⟨⟨nt,nr⟩,ni⟩,⟨⟨pt,pr⟩,pi⟩,name,dir,dots,⟨⟨at_,ar⟩,ai⟩,⟨⟨et,er⟩,ei⟩,text,elems⟩:Gop) k))∧Below w.heap.size w w':=by
 obtain⟨f,g⟩:∃v,v=fW ⟨gt,gr⟩ (⟨1,⟨⟨nt,nr⟩,ni⟩,⟨⟨pt,pr⟩,pi⟩,name,dir,dots,⟨⟨at_,ar⟩,ai⟩,⟨⟨et,er⟩,ei⟩,text,elems⟩:Gop) k:=⟨_,rfl⟩;rw[<-g];have j:=hid (show f≠ -1 from by rw[g,fo hvt];omega);have z:cr (⟨1,⟨⟨nt,nr⟩,ni⟩,⟨⟨pt,pr⟩,pi⟩,name,dir,dots,⟨⟨at_,ar⟩,ai⟩,⟨⟨et,er⟩,ei⟩,text,elems⟩:Gop)=true:=(eG.1 hvt).2;obtain⟨E,n⟩:∃b,b=cr (⟨1,⟨⟨nt,nr⟩,ni⟩,⟨⟨pt,pr⟩,pi⟩,name,dir,dots,⟨⟨at_,ar⟩,ai⟩,⟨⟨et,er⟩,ei⟩,text,elems⟩:Gop):=⟨_,rfl⟩;have A:=hid n
 have B:=hid (show ∀W,Calls Tryz.prog 160 #[.agg #[(1:Int),nt,nr,ni,pt,pr,pi,name,dir,.slice dA dots.length dc,at_,ar,ai,et,er,ei,text,.slice eA elems.length ec],true,false,false,false,false] W λe w'=>e= .returned (.bool E)∧Below W.heap.size W w' from λW=>by
  refine(vbare_1 1 nt nr ni pt pr pi name dir dA dots.length dc at_ ar ai et er ei text eA elems.length ec W (Eq.trans (b:=cr (⟨1,⟨⟨nt,nr⟩,ni⟩,⟨⟨pt,pr⟩,pi⟩,name,dir,dots,⟨⟨at_,ar⟩,ai⟩,⟨⟨et,er⟩,ei⟩,text,elems⟩:Gop)) (by simp[cr,ff]) z)).mono ?_;rintro e w' ⟨rfl,M⟩;refine⟨?_,M⟩;congr 2;rw[n]
  simp[cr,ff])
 have x:Hid (de ⟨gt,gr⟩ (⟨1,⟨⟨nt,nr⟩,ni⟩,⟨⟨pt,pr⟩,pi⟩,name,dir,dots,⟨⟨at_,ar⟩,ai⟩,⟨⟨et,er⟩,ei⟩,text,elems⟩:Gop) k=(cL ⟨gt,gr⟩ ⟨⟨nt,nr⟩,ni⟩ k && du ⟨gt,gr⟩ ⟨⟨pt,pr⟩,pi⟩ k && ek name)):=hid (by simp[de]);have F:Hid ((eR (⟨1,⟨⟨nt,nr⟩,ni⟩,⟨⟨pt,pr⟩,pi⟩,name,dir,dots,⟨⟨at_,ar⟩,ai⟩,⟨⟨et,er⟩,ei⟩,text,elems⟩:Gop):Int)=0):=hid (by simp[eR]);have a:=hid g;clear hvt z g n;go_enter Tryz.func104,Tryz.ntmps104;go_upto_region 2 with fail;generalize hW:(((w.alloc (.cells #[gt,gr,n',.slice dA' dn' dc',ut,ur,.slice oA on oc] 45)).alloc (.cells #[(1:Int),nt,nr,ni,pt,pr,pi,name,dir,.slice dA dots.length dc,at_,ar,ai,et,er,ei,text,.slice eA elems.length ec] 125)).alloc (.cells #[gt,gr,.int .i64 k] 108))=W;have h:=hid (show W.heap[w.heap.size]? =some (.cells #[gt,gr,n',.slice dA' dn' dc',ut,ur,.slice oA on oc] 45 (0,0)) by rw[<-hW];exact(ax _ _ _ (by simp;omega)).trans ((ax _ _ _ (by simp)).trans (am _ _)));have c:=hid (show W.heap[w.heap.size+1]? =some (.cells #[(1:Int),nt,nr,ni,pt,pr,pi,name,dir,.slice dA dots.length dc,at_,ar,ai,et,er,ei,text,.slice eA elems.length ec] 125 (0,0)) by rw[<-hW];exact(ax _ _ _ (by simp)).trans (cJ _ _ (by simp)));have N:=hid (show W.heap[w.heap.size+2]? =some (.cells #[gt,gr,.int .i64 k] 108 (0,0)) by rw[<-hW];exact cJ _ _ (by simp))
 have o:=hid (show Below w.heap.size w W by rw[<-hW];exact(((ag _ _).alloc (aa _) _).alloc (by simp) _).alloc (by simp;omega) _);clear hW;have O:=cw0 c.out;go_upto_region 7 with fail;clear O;have C:=o.out;have Q:=rg1 c.out;have R:=rg2 c.out;have T:=rg3 c.out;have U:=rg4 c.out;have V:=rg5 c.out;have X:=rg6 c.out;have Y:=rg7 c.out;have Z:=rg0 h.out;have y1:=rg1 h.out;have y2:=rg2 h.out;have y3:=rg3 h.out;have y4:=rg4 h.out;have y5:=rg5 h.out;have y6:=rg6 h.out;obtain⟨p,m⟩:∃l:List Value,l=[.int .i64 1,.int .i64 nt,.int .i64 nr,.int .i64 ni,.int .i64 pt,.int .i64 pr,.int .i64 pi,.string name,.bool dir,.slice dA dots.length dc,.int .i64 at_,.int .i64 ar,.int .i64 ai,.int .i64 et,.int .i64 er,.int .i64 ei,.string text,.slice eA elems.length ec]:=⟨_,rfl⟩;have G:=hid m;have H:=hid (eT (show W.rangeAt (w.heap.size+1) 0 p by rw[m];exact iz c.out));have I:=hid (show(Tryz.prog.info? 125).map (·.size)=some p.length by rw[m];kernel_rfl);clear m;have q:=λd i=>ay (gy ⟨gt,gr⟩ ⟨n',dA',dn',dc',ut,ur,oA,on,oc⟩ ⟨⟨nt,nr⟩,ni⟩ k (grow (redrawn W d) i));have r:=λd i=>ay (jP ⟨gt,gr⟩ ⟨n',dA',dn',dc',ut,ur,oA,on,oc⟩ ⟨⟨pt,pr⟩,pi⟩ k (grow (redrawn W d) i));have y:=λd i=>Calls.regrown_same (jI name (grow (redrawn W d) i) hn);have J:=λd i=>ay (B.out (grow (redrawn W d) i));simp only[gxV,idV] at q r
 clear C hD hE B hn hdl hel h c N;cases s:cL ⟨gt,gr⟩ ⟨⟨nt,nr⟩,ni⟩ k with
 |false=>
  rw[s] at q;obtain rfl:f= -1:=by rw[a.out];exact dN (by rw[x.out,s];simp)
  exact absurd rfl j.out
 | true=>
  rw[s] at q;have D:=hid s;clear s;cases t:du ⟨gt,gr⟩ ⟨⟨pt,pr⟩,pi⟩ k with
  |false=>
   rw[t] at r;obtain rfl:f= -1:=by rw[a.out];exact dN (by rw[x.out,D.out,t];simp)
   exact absurd rfl j.out
  | true=>
   rw[t] at r;have K:=hid t;clear t;cases u:ek name with
   |false=>
    rw[u] at y;obtain rfl:f= -1:=by rw[a.out];exact dN (by rw[x.out,D.out,K.out,u];simp)
    exact absurd rfl j.out
   | true=>
    rw[u] at y;have P:=hid u;clear u;cases E with
    |false=>
     obtain rfl:f= -1:=by rw[a.out];exact dN (by rw[<-A.out];simp)
     exact absurd rfl j.out
    |true=>
     obtain rfl:f=0:=by rw[a.out,fo (by rw[<-A.out,x.out,D.out,K.out,P.out];simp),F.out]
     refine bF ?_
     repeat(any_goals(first|(refine eI rfl _ _ rfl (w.heap.size+1) 0 rfl p _ H.out az rfl I.out ?_;rw[G.out])|go_big_quiet_step (first|with_reducible exact q _ _|with_reducible exact r _ _|with_reducible exact y _ _|with_reducible exact J _ _)|quiet_step (first|with_reducible exact q _ _|with_reducible exact r _ _|with_reducible exact y _ _|with_reducible exact J _ _)))
     refine qz λwq L=> ?_;go_wp2;go_ret;exact⟨rfl,o.out.trans (L.mono o.out.size)⟩
theorem vop_2 (gt gr:Int) (n':Int) (dA':Option Addr) (dn' dc':Nat) (ut ur:Int) (oA:Option Addr) (on oc:Nat) (k:Nat) (nt nr ni pt pr pi:Int) (name:ByteArray) (dir:Bool) (dots:List Gst) (at_ ar ai et er ei:Int) (text:ByteArray) (elems:List Gid) (dA:Option Addr) (dc:Nat) (eA:Option Addr) (ec:Nat) (S:Nat->Prop) (w:World) (hn:name.size<=9223372036854775807) (hdl:dots.length<=9223372036854775807) (hel:elems.length<=9223372036854775807) (hD:StsS w S dA dots) (hE:IdsS w S eA elems) (hvt:(de ⟨gt,gr⟩ (⟨2,⟨⟨nt,nr⟩,ni⟩,⟨⟨pt,pr⟩,pi⟩,name,dir,dots,⟨⟨at_,ar⟩,ai⟩,⟨⟨et,er⟩,ei⟩,text,elems⟩:Gop) k && cr (⟨2,⟨⟨nt,nr⟩,ni⟩,⟨⟨pt,pr⟩,pi⟩,name,dir,dots,⟨⟨at_,ar⟩,ai⟩,⟨⟨et,er⟩,ei⟩,text,elems⟩:Gop))=true):
  Calls Tryz.prog 104 #[.agg #[gt,gr,n',.slice dA' dn' dc',ut,ur,.slice oA on oc],.agg #[(2:Int),nt,nr,ni,pt,pr,pi,name,dir,.slice dA dots.length dc,at_,ar,ai,et,er,ei,text,.slice eA elems.length ec],.int .i64 k] w λe w'=>e= .returned (.int .i64 (fW ⟨gt,gr⟩ (⟨2,⟨⟨nt,nr⟩,ni⟩,⟨⟨pt,pr⟩,pi⟩,name,dir,dots,⟨⟨at_,ar⟩,ai⟩,⟨⟨et,er⟩,ei⟩,text,elems⟩:Gop) k))∧Below w.heap.size w w':=by
 obtain⟨f,a⟩:∃v,v=fW ⟨gt,gr⟩ (⟨2,⟨⟨nt,nr⟩,ni⟩,⟨⟨pt,pr⟩,pi⟩,name,dir,dots,⟨⟨at_,ar⟩,ai⟩,⟨⟨et,er⟩,ei⟩,text,elems⟩:Gop) k:=⟨_,rfl⟩;rw[<-a];have n:=hid (show f≠ -1 from by rw[a,fo hvt];omega);have x:cr (⟨2,⟨⟨nt,nr⟩,ni⟩,⟨⟨pt,pr⟩,pi⟩,name,dir,dots,⟨⟨at_,ar⟩,ai⟩,⟨⟨et,er⟩,ei⟩,text,elems⟩:Gop)=true:=(eG.1 hvt).2;obtain⟨B,o⟩:∃b,b=cr (⟨2,⟨⟨nt,nr⟩,ni⟩,⟨⟨pt,pr⟩,pi⟩,name,dir,dots,⟨⟨at_,ar⟩,ai⟩,⟨⟨et,er⟩,ei⟩,text,elems⟩:Gop):=⟨_,rfl⟩;have y:=hid o
 have z:=hid (show ∀W,Calls Tryz.prog 160 #[.agg #[(2:Int),nt,nr,ni,pt,pr,pi,name,dir,.slice dA dots.length dc,at_,ar,ai,et,er,ei,text,.slice eA elems.length ec],false,false,true,false,false] W λe w'=>e= .returned (.bool B)∧Below W.heap.size W w' from λW=>by
  refine(vbare_2 2 nt nr ni pt pr pi name dir dA dots.length dc at_ ar ai et er ei text eA elems.length ec W (Eq.trans (b:=cr (⟨2,⟨⟨nt,nr⟩,ni⟩,⟨⟨pt,pr⟩,pi⟩,name,dir,dots,⟨⟨at_,ar⟩,ai⟩,⟨⟨et,er⟩,ei⟩,text,elems⟩:Gop)) (by simp[cr,ff]) x)).mono ?_;rintro e w' ⟨rfl,J⟩;refine⟨?_,J⟩;congr 2;rw[o]
  simp[cr,ff])
 have A:Hid (de ⟨gt,gr⟩ (⟨2,⟨⟨nt,nr⟩,ni⟩,⟨⟨pt,pr⟩,pi⟩,name,dir,dots,⟨⟨at_,ar⟩,ai⟩,⟨⟨et,er⟩,ei⟩,text,elems⟩:Gop) k=(cL ⟨gt,gr⟩ ⟨⟨nt,nr⟩,ni⟩ k && il ⟨gt,gr⟩ dots)):=hid (by simp[de]);have C:Hid ((eR (⟨2,⟨⟨nt,nr⟩,ni⟩,⟨⟨pt,pr⟩,pi⟩,name,dir,dots,⟨⟨at_,ar⟩,ai⟩,⟨⟨et,er⟩,ei⟩,text,elems⟩:Gop):Int)=0):=hid (by simp[eR]);have c:=hid a;clear hvt x a o;go_enter Tryz.func104,Tryz.ntmps104;go_upto_region 2 with fail;generalize hW:(((w.alloc (.cells #[gt,gr,n',.slice dA' dn' dc',ut,ur,.slice oA on oc] 45)).alloc (.cells #[(2:Int),nt,nr,ni,pt,pr,pi,name,dir,.slice dA dots.length dc,at_,ar,ai,et,er,ei,text,.slice eA elems.length ec] 125)).alloc (.cells #[gt,gr,.int .i64 k] 108))=W;have g:=hid (show W.heap[w.heap.size]? =some (.cells #[gt,gr,n',.slice dA' dn' dc',ut,ur,.slice oA on oc] 45 (0,0)) by rw[<-hW];exact(ax _ _ _ (by simp;omega)).trans ((ax _ _ _ (by simp)).trans (am _ _)));have h:=hid (show W.heap[w.heap.size+1]? =some (.cells #[(2:Int),nt,nr,ni,pt,pr,pi,name,dir,.slice dA dots.length dc,at_,ar,ai,et,er,ei,text,.slice eA elems.length ec] 125 (0,0)) by rw[<-hW];exact(ax _ _ _ (by simp)).trans (cJ _ _ (by simp)));have K:=hid (show W.heap[w.heap.size+2]? =some (.cells #[gt,gr,.int .i64 k] 108 (0,0)) by rw[<-hW];exact cJ _ _ (by simp))
 have p:=hid (show Below w.heap.size w W by rw[<-hW];exact(((ag _ _).alloc (aa _) _).alloc (by simp) _).alloc (by simp;omega) _);clear hW;have L:=cw0 h.out;go_upto_region 10 with fail;clear L;have i:=p.out;have N:=rg1 h.out;have O:=rg2 h.out;have P:=rg3 h.out;have Q:=rg9 h.out;have R:=rg0 g.out;have T:=rg1 g.out;have U:=rg2 g.out;have V:=rg3 g.out;have X:=rg4 g.out;have Y:=rg5 g.out;have Z:=rg6 g.out;obtain⟨q,j⟩:∃l:List Value,l=[.int .i64 2,.int .i64 nt,.int .i64 nr,.int .i64 ni,.int .i64 pt,.int .i64 pr,.int .i64 pi,.string name,.bool dir,.slice dA dots.length dc,.int .i64 at_,.int .i64 ar,.int .i64 ai,.int .i64 et,.int .i64 er,.int .i64 ei,.string text,.slice eA elems.length ec]:=⟨_,rfl⟩;have D:=hid j;have E:=hid (eT (show W.rangeAt (w.heap.size+1) 0 q by rw[j];exact iz h.out));have F:=hid (show(Tryz.prog.info? 125).map (·.size)=some q.length by rw[j];kernel_rfl);clear j;have r:=λd m=>ay (gy ⟨gt,gr⟩ ⟨n',dA',dn',dc',ut,ur,oA,on,oc⟩ ⟨⟨nt,nr⟩,ni⟩ k (grow (redrawn W d) m));have s:=λd m=>ay (refdots_any ⟨gt,gr⟩ ⟨n',dA',dn',dc',ut,ur,oA,on,oc⟩ dA dc dots S (grow (redrawn W d) m) hdl (hD.agr (Agr.below (i.trans ((bE W d m).mono i.size)))));have G:=λd m=>ay (z.out (grow (redrawn W d) m));simp only[gxV,idV] at r s;clear i hD hE z hn hdl hel g h K;cases t:cL ⟨gt,gr⟩ ⟨⟨nt,nr⟩,ni⟩ k with
 |false=>
  rw[t] at r;obtain rfl:f= -1:=by rw[c.out];exact dN (by rw[A.out,t];simp)
  exact absurd rfl n.out
 | true=>
  rw[t] at r;have H:=hid t;clear t;cases u:il ⟨gt,gr⟩ dots with
  |false=>
   rw[u] at s;obtain rfl:f= -1:=by rw[c.out];exact dN (by rw[A.out,H.out,u];simp)
   exact absurd rfl n.out
  | true=>
   rw[u] at s;have M:=hid u;clear u;cases B with
   |false=>
    obtain rfl:f= -1:=by rw[c.out];exact dN (by rw[<-y.out];simp)
    exact absurd rfl n.out
   |true=>
    obtain rfl:f=0:=by rw[c.out,fo (by rw[<-y.out,A.out,H.out,M.out];simp),C.out]
    refine bF ?_
    repeat(any_goals(first|(refine eI rfl _ _ rfl (w.heap.size+1) 0 rfl q _ E.out az rfl F.out ?_;rw[D.out])|go_big_quiet_step (first|with_reducible exact r _ _|with_reducible exact s _ _|with_reducible exact G _ _)|quiet_step (first|with_reducible exact r _ _|with_reducible exact s _ _|with_reducible exact G _ _)))
    refine qz λwq I=> ?_;go_wp2;go_ret;exact⟨rfl,p.out.trans (I.mono p.out.size)⟩
theorem vop_4 (gt gr:Int) (n':Int) (dA':Option Addr) (dn' dc':Nat) (ut ur:Int) (oA:Option Addr) (on oc:Nat) (k:Nat) (nt nr ni pt pr pi:Int) (name:ByteArray) (dir:Bool) (dots:List Gst) (at_ ar ai et er ei:Int) (text:ByteArray) (elems:List Gid) (dA:Option Addr) (dc:Nat) (eA:Option Addr) (ec:Nat) (S:Nat->Prop) (w:World) (hn:name.size<=9223372036854775807) (hdl:dots.length<=9223372036854775807) (hel:elems.length<=9223372036854775807) (hD:StsS w S dA dots) (hE:IdsS w S eA elems) (hvt:(de ⟨gt,gr⟩ (⟨4,⟨⟨nt,nr⟩,ni⟩,⟨⟨pt,pr⟩,pi⟩,name,dir,dots,⟨⟨at_,ar⟩,ai⟩,⟨⟨et,er⟩,ei⟩,text,elems⟩:Gop) k && cr (⟨4,⟨⟨nt,nr⟩,ni⟩,⟨⟨pt,pr⟩,pi⟩,name,dir,dots,⟨⟨at_,ar⟩,ai⟩,⟨⟨et,er⟩,ei⟩,text,elems⟩:Gop))=true):
  Calls Tryz.prog 104 #[.agg #[gt,gr,n',.slice dA' dn' dc',ut,ur,.slice oA on oc],.agg #[(4:Int),nt,nr,ni,pt,pr,pi,name,dir,.slice dA dots.length dc,at_,ar,ai,et,er,ei,text,.slice eA elems.length ec],.int .i64 k] w λe w'=>e= .returned (.int .i64 (fW ⟨gt,gr⟩ (⟨4,⟨⟨nt,nr⟩,ni⟩,⟨⟨pt,pr⟩,pi⟩,name,dir,dots,⟨⟨at_,ar⟩,ai⟩,⟨⟨et,er⟩,ei⟩,text,elems⟩:Gop) k))∧Below w.heap.size w w':=by
 obtain⟨f,a⟩:∃v,v=fW ⟨gt,gr⟩ (⟨4,⟨⟨nt,nr⟩,ni⟩,⟨⟨pt,pr⟩,pi⟩,name,dir,dots,⟨⟨at_,ar⟩,ai⟩,⟨⟨et,er⟩,ei⟩,text,elems⟩:Gop) k:=⟨_,rfl⟩;rw[<-a];have n:=hid (show f≠ -1 from by rw[a,fo hvt];omega);have x:cr (⟨4,⟨⟨nt,nr⟩,ni⟩,⟨⟨pt,pr⟩,pi⟩,name,dir,dots,⟨⟨at_,ar⟩,ai⟩,⟨⟨et,er⟩,ei⟩,text,elems⟩:Gop)=true:=(eG.1 hvt).2;obtain⟨B,o⟩:∃b,b=cr (⟨4,⟨⟨nt,nr⟩,ni⟩,⟨⟨pt,pr⟩,pi⟩,name,dir,dots,⟨⟨at_,ar⟩,ai⟩,⟨⟨et,er⟩,ei⟩,text,elems⟩:Gop):=⟨_,rfl⟩;have y:=hid o
 have z:=hid (show ∀W,Calls Tryz.prog 160 #[.agg #[(4:Int),nt,nr,ni,pt,pr,pi,name,dir,.slice dA dots.length dc,at_,ar,ai,et,er,ei,text,.slice eA elems.length ec],false,false,false,false,true] W λe w'=>e= .returned (.bool B)∧Below W.heap.size W w' from λW=>by
  refine(vbare_4 4 nt nr ni pt pr pi name dir dA dots.length dc at_ ar ai et er ei text eA elems.length ec W (Eq.trans (b:=cr (⟨4,⟨⟨nt,nr⟩,ni⟩,⟨⟨pt,pr⟩,pi⟩,name,dir,dots,⟨⟨at_,ar⟩,ai⟩,⟨⟨et,er⟩,ei⟩,text,elems⟩:Gop)) (by simp[cr,ff]) x)).mono ?_;rintro e w' ⟨rfl,J⟩;refine⟨?_,J⟩;congr 2;rw[o]
  simp[cr,ff])
 have A:Hid (de ⟨gt,gr⟩ (⟨4,⟨⟨nt,nr⟩,ni⟩,⟨⟨pt,pr⟩,pi⟩,name,dir,dots,⟨⟨at_,ar⟩,ai⟩,⟨⟨et,er⟩,ei⟩,text,elems⟩:Gop) k=(cL ⟨gt,gr⟩ ⟨⟨nt,nr⟩,ni⟩ k && fQ ⟨gt,gr⟩ elems k)):=hid (by simp[de]);have C:Hid ((eR (⟨4,⟨⟨nt,nr⟩,ni⟩,⟨⟨pt,pr⟩,pi⟩,name,dir,dots,⟨⟨at_,ar⟩,ai⟩,⟨⟨et,er⟩,ei⟩,text,elems⟩:Gop):Int)=0):=hid (by simp[eR]);have c:=hid a;clear hvt x a o;go_enter Tryz.func104,Tryz.ntmps104;go_upto_region 2 with fail;generalize hW:(((w.alloc (.cells #[gt,gr,n',.slice dA' dn' dc',ut,ur,.slice oA on oc] 45)).alloc (.cells #[(4:Int),nt,nr,ni,pt,pr,pi,name,dir,.slice dA dots.length dc,at_,ar,ai,et,er,ei,text,.slice eA elems.length ec] 125)).alloc (.cells #[gt,gr,.int .i64 k] 108))=W;have g:=hid (show W.heap[w.heap.size]? =some (.cells #[gt,gr,n',.slice dA' dn' dc',ut,ur,.slice oA on oc] 45 (0,0)) by rw[<-hW];exact(ax _ _ _ (by simp;omega)).trans ((ax _ _ _ (by simp)).trans (am _ _)));have h:=hid (show W.heap[w.heap.size+1]? =some (.cells #[(4:Int),nt,nr,ni,pt,pr,pi,name,dir,.slice dA dots.length dc,at_,ar,ai,et,er,ei,text,.slice eA elems.length ec] 125 (0,0)) by rw[<-hW];exact(ax _ _ _ (by simp)).trans (cJ _ _ (by simp)));have K:=hid (show W.heap[w.heap.size+2]? =some (.cells #[gt,gr,.int .i64 k] 108 (0,0)) by rw[<-hW];exact cJ _ _ (by simp))
 have p:=hid (show Below w.heap.size w W by rw[<-hW];exact(((ag _ _).alloc (aa _) _).alloc (by simp) _).alloc (by simp;omega) _);clear hW;have L:=cw0 h.out;go_upto_region 17 with fail;clear L;have i:=p.out;have O:=rg1 h.out;have P:=rg2 h.out;have Q:=rg3 h.out;have N:=rg17 h.out;have R:=rg0 g.out;have T:=rg1 g.out;have U:=rg2 g.out;have V:=rg3 g.out;have X:=rg4 g.out;have Y:=rg5 g.out;have Z:=rg6 g.out;obtain⟨q,j⟩:∃l:List Value,l=[.int .i64 4,.int .i64 nt,.int .i64 nr,.int .i64 ni,.int .i64 pt,.int .i64 pr,.int .i64 pi,.string name,.bool dir,.slice dA dots.length dc,.int .i64 at_,.int .i64 ar,.int .i64 ai,.int .i64 et,.int .i64 er,.int .i64 ei,.string text,.slice eA elems.length ec]:=⟨_,rfl⟩;have D:=hid j;have E:=hid (eT (show W.rangeAt (w.heap.size+1) 0 q by rw[j];exact iz h.out));have F:=hid (show(Tryz.prog.info? 125).map (·.size)=some q.length by rw[j];kernel_rfl);clear j;have r:=λd m=>ay (gy ⟨gt,gr⟩ ⟨n',dA',dn',dc',ut,ur,oA,on,oc⟩ ⟨⟨nt,nr⟩,ni⟩ k (grow (redrawn W d) m));have s:=λd m=>ay (refelems_any ⟨gt,gr⟩ ⟨n',dA',dn',dc',ut,ur,oA,on,oc⟩ k eA ec elems S (grow (redrawn W d) m) hel (hE.agr (Agr.below (i.trans ((bE W d m).mono i.size)))));have G:=λd m=>ay (z.out (grow (redrawn W d) m));simp only[gxV,idV] at r s;clear i hD hE z hn hdl hel g h K;cases t:cL ⟨gt,gr⟩ ⟨⟨nt,nr⟩,ni⟩ k with
 |false=>
  rw[t] at r;obtain rfl:f= -1:=by rw[c.out];exact dN (by rw[A.out,t];simp)
  exact absurd rfl n.out
 | true=>
  rw[t] at r;have H:=hid t;clear t;cases u:fQ ⟨gt,gr⟩ elems k with
  |false=>
   rw[u] at s;obtain rfl:f= -1:=by rw[c.out];exact dN (by rw[A.out,H.out,u];simp)
   exact absurd rfl n.out
  | true=>
   rw[u] at s;have M:=hid u;clear u;cases B with
   |false=>
    obtain rfl:f= -1:=by rw[c.out];exact dN (by rw[<-y.out];simp)
    exact absurd rfl n.out
   |true=>
    obtain rfl:f=0:=by rw[c.out,fo (by rw[<-y.out,A.out,H.out,M.out];simp),C.out]
    refine bF ?_
    repeat(any_goals(first|(refine eI rfl _ _ rfl (w.heap.size+1) 0 rfl q _ E.out az rfl F.out ?_;rw[D.out])|go_big_quiet_step (first|with_reducible exact r _ _|with_reducible exact s _ _|with_reducible exact G _ _)|quiet_step (first|with_reducible exact r _ _|with_reducible exact s _ _|with_reducible exact G _ _)))
    refine qz λwq I=> ?_;go_wp2;go_ret;exact⟨rfl,p.out.trans (I.mono p.out.size)⟩
theorem vop_3s (gt gr:Int) (n':Int) (dA':Option Addr) (dn' dc':Nat) (ut ur:Int) (oA:Option Addr) (on oc:Nat) (k:Nat) (nt nr ni pt pr pi:Int) (name:ByteArray) (dir:Bool) (dots:List Gst) (at_ ar ai et er ei:Int) (text:ByteArray) (elems:List Gid) (dA:Option Addr) (dc:Nat) (eA:Option Addr) (ec:Nat) (S:Nat->Prop) (w:World) (hn:name.size<=9223372036854775807) (hdl:dots.length<=9223372036854775807) (hel:elems.length<=9223372036854775807) (hD:StsS w S dA dots) (hE:IdsS w S eA elems) (htx:text.size<=1000000) (m:Nat) (hcnt:cnt text.data.toList=some m) (hvt:(de ⟨gt,gr⟩ (⟨3,⟨⟨nt,nr⟩,ni⟩,⟨⟨pt,pr⟩,pi⟩,name,dir,dots,⟨⟨at_,ar⟩,ai⟩,⟨⟨et,er⟩,ei⟩,text,elems⟩:Gop) k && cr (⟨3,⟨⟨nt,nr⟩,ni⟩,⟨⟨pt,pr⟩,pi⟩,name,dir,dots,⟨⟨at_,ar⟩,ai⟩,⟨⟨et,er⟩,ei⟩,text,elems⟩:Gop))=true):
  Calls Tryz.prog 104 #[.agg #[gt,gr,n',.slice dA' dn' dc',ut,ur,.slice oA on oc],.agg #[(3:Int),nt,nr,ni,pt,pr,pi,name,dir,.slice dA dots.length dc,at_,ar,ai,et,er,ei,text,.slice eA elems.length ec],.int .i64 k] w λe w'=>e= .returned (.int .i64 (fW ⟨gt,gr⟩ (⟨3,⟨⟨nt,nr⟩,ni⟩,⟨⟨pt,pr⟩,pi⟩,name,dir,dots,⟨⟨at_,ar⟩,ai⟩,⟨⟨et,er⟩,ei⟩,text,elems⟩:Gop) k))∧Below w.heap.size w w':=by
 obtain⟨c,h⟩:∃v,v=fW ⟨gt,gr⟩ (⟨3,⟨⟨nt,nr⟩,ni⟩,⟨⟨pt,pr⟩,pi⟩,name,dir,dots,⟨⟨at_,ar⟩,ai⟩,⟨⟨et,er⟩,ei⟩,text,elems⟩:Gop) k:=⟨_,rfl⟩;rw[<-h];have g:=hid (show c≠ -1 from by rw[h,fo hvt];omega);have E:cr (⟨3,⟨⟨nt,nr⟩,ni⟩,⟨⟨pt,pr⟩,pi⟩,name,dir,dots,⟨⟨at_,ar⟩,ai⟩,⟨⟨et,er⟩,ei⟩,text,elems⟩:Gop)=true:=(eG.1 hvt).2;obtain⟨N,q⟩:∃b,b=cr (⟨3,⟨⟨nt,nr⟩,ni⟩,⟨⟨pt,pr⟩,pi⟩,name,dir,dots,⟨⟨at_,ar⟩,ai⟩,⟨⟨et,er⟩,ei⟩,text,elems⟩:Gop):=⟨_,rfl⟩;have F:=hid q
 have G:=hid (show ∀W,Calls Tryz.prog 160 #[.agg #[(3:Int),nt,nr,ni,pt,pr,pi,name,dir,.slice dA dots.length dc,at_,ar,ai,et,er,ei,text,.slice eA elems.length ec],false,false,false,true,false] W λe w'=>e= .returned (.bool N)∧Below W.heap.size W w' from λW=>by
  refine(vbare_3 3 nt nr ni pt pr pi name dir dA dots.length dc at_ ar ai et er ei text eA elems.length ec W (Eq.trans (b:=cr (⟨3,⟨⟨nt,nr⟩,ni⟩,⟨⟨pt,pr⟩,pi⟩,name,dir,dots,⟨⟨at_,ar⟩,ai⟩,⟨⟨et,er⟩,ei⟩,text,elems⟩:Gop)) (by simp[cr,ff]) E)).mono ?_;rintro e w' ⟨rfl,hB⟩;refine⟨?_,hB⟩;congr 2;rw[q]
  simp[cr,ff])
 have p:Hid (de ⟨gt,gr⟩ (⟨3,⟨⟨nt,nr⟩,ni⟩,⟨⟨pt,pr⟩,pi⟩,name,dir,dots,⟨⟨at_,ar⟩,ai⟩,⟨⟨et,er⟩,ei⟩,text,elems⟩:Gop) k=(cL ⟨gt,gr⟩ ⟨⟨nt,nr⟩,ni⟩ k && du ⟨gt,gr⟩ ⟨⟨at_,ar⟩,ai⟩ k && Gid.eqb ⟨⟨et,er⟩,ei⟩ ⟨⟨gt,gr⟩,(k:Int)⟩ && (decide (1<=m) && decide (m<=2000)))):=hid (by simp[de,textB,jj,hcnt,jk hcnt]);have O:Hid ((eR (⟨3,⟨⟨nt,nr⟩,ni⟩,⟨⟨pt,pr⟩,pi⟩,name,dir,dots,⟨⟨at_,ar⟩,ai⟩,⟨⟨et,er⟩,ei⟩,text,elems⟩:Gop):Int)=m):=hid (by simp[eR,jk hcnt]);have P:Hid (∀w,Calls Tryz.prog 163 #[text] w λe w'=>e= .returned (.tuple #[.int .i64 m,(0:Int)])∧Below w.heap.size w w'):=hid (λw=>reflen_ok text m w htx hcnt);have a:=hid h;clear hvt E h q hcnt htx;go_enter Tryz.func104,Tryz.ntmps104;go_upto_region 2 with fail;generalize hW:(((w.alloc (.cells #[gt,gr,n',.slice dA' dn' dc',ut,ur,.slice oA on oc] 45)).alloc (.cells #[(3:Int),nt,nr,ni,pt,pr,pi,name,dir,.slice dA dots.length dc,at_,ar,ai,et,er,ei,text,.slice eA elems.length ec] 125)).alloc (.cells #[gt,gr,.int .i64 k] 108))=V;have H:=hid (show V.heap[w.heap.size]? =some (.cells #[gt,gr,n',.slice dA' dn' dc',ut,ur,.slice oA on oc] 45 (0,0)) by rw[<-hW];exact(ax _ _ _ (by simp;omega)).trans ((ax _ _ _ (by simp)).trans (am _ _)))
 have n:=hid (show V.heap[w.heap.size+1]? =some (.cells #[(3:Int),nt,nr,ni,pt,pr,pi,name,dir,.slice dA dots.length dc,at_,ar,ai,et,er,ei,text,.slice eA elems.length ec] 125 (0,0)) by rw[<-hW];exact(ax _ _ _ (by simp)).trans (cJ _ _ (by simp)));have I:=hid (show V.heap[w.heap.size+2]? =some (.cells #[gt,gr,.int .i64 k] 108 (0,0)) by rw[<-hW];exact cJ _ _ (by simp));have J:=hid (show Below w.heap.size w V by rw[<-hW];exact(((ag _ _).alloc (aa _) _).alloc (by simp) _).alloc (by simp;omega) _);clear hW;have r0:=cw0 n.out;have Q:=cw16 n.out;go_upto_region 14 with(go_at_call 163;refine(P.out _).mono ?_;rintro e W ⟨rfl,i⟩);have j:=bK i H;have f:=bK i n;have C:=bK i I;have r:=bT J i;clear r0 Q i H n I J;have K:=r.out;have x1:=rg1 f.out;have x2:=rg2 f.out;have x3:=rg3 f.out;have ad:=rg10 f.out;have ae:=rg11 f.out;have af:=rg12 f.out;have ah:=rg13 f.out;have aj:=rg14 f.out;have al:=rg15 f.out;have y0:=rg0 j.out;have y1:=rg1 j.out;have y2:=rg2 j.out;have y3:=rg3 j.out;have y4:=rg4 j.out;have y5:=rg5 j.out;have y6:=rg6 j.out;have z0:=rg0 C.out;have z1:=rg1 C.out;have z2:=rg2 C.out
 obtain⟨s,o⟩:∃l:List Value,l=[.int .i64 3,.int .i64 nt,.int .i64 nr,.int .i64 ni,.int .i64 pt,.int .i64 pr,.int .i64 pi,.string name,.bool dir,.slice dA dots.length dc,.int .i64 at_,.int .i64 ar,.int .i64 ai,.int .i64 et,.int .i64 er,.int .i64 ei,.string text,.slice eA elems.length ec]:=⟨_,rfl⟩;have R:=hid o;have T:=hid (eT (show W.rangeAt (w.heap.size+1) 0 s by rw[o];exact iz f.out));have U:=hid (show(Tryz.prog.info? 125).map (·.size)=some s.length by rw[o];kernel_rfl);clear o;have t:=λd u=>ay (gy ⟨gt,gr⟩ ⟨n',dA',dn',dc',ut,ur,oA,on,oc⟩ ⟨⟨nt,nr⟩,ni⟩ k (grow (redrawn W d) u));have x:=λd u=>ay (jP ⟨gt,gr⟩ ⟨n',dA',dn',dc',ut,ur,oA,on,oc⟩ ⟨⟨at_,ar⟩,ai⟩ k (grow (redrawn W d) u));have X:=λd u=>ay (G.out (grow (redrawn W d) u));simp only[gxV,idV] at t x;clear K hD hE G hn hdl hel j f C;cases y:cL ⟨gt,gr⟩ ⟨⟨nt,nr⟩,ni⟩ k with
 |false=>
  rw[y] at t;obtain rfl:c= -1:=by rw[a.out];exact dN (by rw[p.out,y];simp)
  exact absurd rfl g.out
 | true=>
  rw[y] at t;have z:=hid y;clear y;cases A:du ⟨gt,gr⟩ ⟨⟨at_,ar⟩,ai⟩ k with
  |false=>
   rw[A] at x;obtain rfl:c= -1:=by rw[a.out];exact dN (by rw[p.out,z.out,A];simp)
   exact absurd rfl g.out
  | true=>
   rw[A] at x;have D:=hid A;clear A;cases B:Gid.eqb ⟨⟨et,er⟩,ei⟩ ⟨⟨gt,gr⟩,(k:Int)⟩ with
   |false=>
    have he:=eJ et er ei gt gr k false B;obtain rfl:c= -1:=by rw[a.out];exact dN (by rw[p.out,z.out,D.out,B];simp)
    exact absurd rfl g.out
   | true=>
    have he:=eJ et er ei gt gr k true B;have L:=hid B;clear B;by_cases Y:1<=m
    rotate_left
    ·obtain rfl:m=0:=by omega
     obtain rfl:c= -1:=by rw[a.out];exact dN (by rw[p.out,z.out,D.out,L.out];simp)
     exact absurd rfl g.out
    have b1:decide ((m:Int)≥1)=true:=by rw[ak];omega
    have b2:(m:Int)≥1:=by omega
    have b4:(1:Int)<=(m:Int):=by omega
    by_cases M:m<=2000
    rotate_left
    ·have b3:¬(m:Int)<=2000:=by omega
     obtain rfl:c= -1:=by rw[a.out];exact dN (by rw[p.out,z.out,D.out,L.out];simp[M])
     exact absurd rfl g.out
    have b3:(m:Int)<=2000:=by omega
    have Z:=hid Y;have ab:=hid M;clear Y M;cases N with
    |false=>
     obtain rfl:c= -1:=by rw[a.out];exact dN (by rw[<-F.out];simp)
     exact absurd rfl g.out
    |true=>
     obtain rfl:c=m:=by rw[a.out,fo (by rw[<-F.out,p.out,z.out,D.out,L.out];simp[Z.out,ab.out]),O.out]
     refine bF ?_
     repeat(any_goals(first|(refine eI rfl _ _ rfl (w.heap.size+1) 0 rfl s _ T.out az rfl U.out ?_;rw[R.out])|go_big_quiet_step (first|with_reducible exact t _ _|with_reducible exact x _ _|with_reducible exact X _ _)|quiet_step (first|with_reducible exact t _ _|with_reducible exact x _ _|with_reducible exact X _ _)))
     refine qz λwq ac=> ?_;go_wp2;go_ret;exact⟨rfl,r.out.trans (ac.mono r.out.size)⟩
end
section
open Go.RowKit Go.Lib Go.Sort Go.Shelf
def signsL:List UInt8:=[48,49,50,51,52,53,54,55,56,57,65,66,67,68,69,70,71,72,73,74,75,76,77,78,79,80,81,82,83,84,85,86,87,88,89,90,97,98,99,100,101,102,103,104,105,106,107,108,109,110,111,112,113,114,115,116,117,118,119,120,121,122,46,45,95]
theorem signs_all:∀n:Fin 256,signsL.contains (UInt8.ofNat n.val)=signB (UInt8.ofNat n.val):=by decide +kernel
theorem signs_sign (b:UInt8):signsL.contains b=signB b:=by
 have h:=signs_all ⟨b.toNat,b.toNat_lt⟩;have e:UInt8.ofNat b.toNat=b:=by simp
 simp only[e] at h;exact h
theorem jQ {α:Type} (p:α->Bool):∀l:List α,l.dropWhile p=[]↔∀b∈l,p b=true
 | []=>by simp
 | a::l=>by
  rw[List.dropWhile_cons]
  by_cases h:p a=true
  ·rw[aJ h,jQ p l]
   simp[h]
  ·rw[aC h]
   simp[h]
theorem trimS_nil (l:List UInt8):trimS l signsL=[]↔l.all signB=true:=by
 unfold trimS trimLeftS trimRightS;rw[jQ,dJ];constructor
 ·intro h b c;by_cases a:l.reverse.dropWhile (signsL.contains ·)=[]
  ·have:=(jQ _ _).1 a b (List.mem_reverse.2 c);rw[signs_sign] at this;exact this
  ·exfalso;have d:=List.head_dropWhile_not (signsL.contains ·) (l:=l.reverse) a;have e:=h ((l.reverse.dropWhile (signsL.contains ·)).head a) (List.mem_reverse.2 (List.head_mem a));rw[e] at d;cases d
 ·intro h b c;rw[signs_sign];refine h b ?_;have:=List.mem_reverse.1 c;exact List.mem_reverse.1 ((List.dropWhile_sublist _).subset this)
theorem trim_any (s c:ByteArray) (w:World) (hs:s.size<=9223372036854775807) (hc:c.data.toList=signsL):
  Calls Tryz.prog 186 #[s,c] w λe w'=>e= .returned (.string ⟨(trimS s.data.toList signsL).toArray⟩)∧Below w.heap.size w w':=by
 rw[<-hc];refine Any.strings_Trim_laid Tryz.lays160 (by kernel_rfl) s c w hs ?_ ?_
 ·have a:c.data.toList.length=c.size:=by simp
  rw[<-a,hc];decide
 ·rw[hc];exact ascii_of_all (by decide)
theorem str_nil {s:ByteArray}:s.toList=s.data.toList:=eS s
theorem name_any (s:ByteArray) (w:World) (hs:s.size<=9223372036854775807):
  Calls Tryz.prog 152 #[s] w λe w'=>e= .returned (.bool (ek s))∧Below w.heap.size w w':=by
 obtain⟨b,m⟩:∃v,v=ek s:=⟨_,rfl⟩;have r:b=ek s:=m;rw[<-m];have h:=hid m;clear m r;by_cases i:s.data.toList=[]
 ·obtain rfl:b=false:=by rw[h.out];simp[ek,i]
  obtain rfl:=gm.1 i;go_enter Tryz.func152,Tryz.ntmps152;go_wp2;go_ret;exact⟨rfl,ag _ _⟩
 have x:s.toList.isEmpty=false:=by
  rw[str_nil];cases e:s.data.toList with
  |nil=>exact absurd e i
  |cons a l=>rfl
 by_cases n:s.size<=32
 ·have t:(s.size:Int)<=32:=by omega
  by_cases j:s.data.toList=[46]
  ·obtain rfl:b=false:=by rw[h.out];simp[ek,j]
   obtain rfl:s=⟨#[46]⟩:=fD (eH.1 j);go_enter Tryz.func152,Tryz.ntmps152;go_wp2;go_ret;exact⟨rfl,ag _ _⟩
  have y:(s.toList == [46])=false:=by rw[str_nil];simp[j]
  by_cases k:s.data.toList=[46,46]
  ·obtain rfl:b=false:=by rw[h.out];simp[ek,k]
   obtain rfl:s=⟨#[46,46]⟩:=fD (eH.1 k);go_enter Tryz.func152,Tryz.ntmps152;go_wp2;go_ret;exact⟨rfl,ag _ _⟩
  have z:(s.toList == [46,46])=false:=by rw[str_nil];simp[k]
  by_cases d:s.data.toList.all signB=true
  ·obtain rfl:b=true:=by rw[h.out];simp only[ek,d];simp[i,n,j,k]
   have f:=λc w o=>trim_any s c w hs o;rw[(trimS_nil _).2 d] at f;have p:=hid f;clear i n j k d f;go_enter Tryz.func152,Tryz.ntmps152;go_wp2_with fail;refine(p.out _ _ (by rfl)).mono ?_;rintro e u ⟨rfl,q⟩;go_wp2;go_ret;exact⟨rfl,q⟩
  ·obtain rfl:b=false:=by rw[h.out];simp only[ek,d];simp
   have f:=λc w o=>trim_any s c w hs o;obtain⟨T,g⟩:∃T:ByteArray,T=⟨(trimS s.data.toList signsL).toArray⟩:=⟨_,rfl⟩;have A:T.toList.isEmpty=false:=by
    rw[str_nil,g];have:=mt (trimS_nil s.data.toList).1 d;simp[this]
   have B:(T.toList == [])=false:=by
    rw[str_nil,g];have:=mt (trimS_nil s.data.toList).1 d;simp[this]
   rw[<-g] at f;have p:=hid f;clear i n j k d f g;go_enter Tryz.func152,Tryz.ntmps152;go_wp2_with fail;refine(p.out _ _ (by rfl)).mono ?_;rintro e u ⟨rfl,q⟩;go_wp2;go_ret;exact⟨rfl,q⟩
 ·have t:¬(s.size:Int)<=32:=by omega
  obtain rfl:b=false:=by rw[h.out];simp[ek,n]
  go_enter Tryz.func152,Tryz.ntmps152;go_wp2;go_ret;exact⟨rfl,ag _ _⟩
def Tabs (w:World):Prop:=Lib.Utf8Tabs (Tryz.lays196_ren.g 3) (Tryz.lays196_ren.g 4) w
theorem Tabs.below {w w':World} (h:Tabs w) (hb:Below w.heap.size w w'):Tabs w':=Utf8Tabs_below h hb
theorem valid_any (s:ByteArray) (w:World) (hs:s.size<=9223372036854775807) (hT:Tabs w):
  Calls Tryz.prog 188 #[s] w λe w'=>e= .returned (.bool (validD s.data.toList))∧Below w.heap.size w w':=
 Any.utf8_ValidString Tryz.lays196 s w hs hT
theorem count_any (s:ByteArray) (w:World) (hs:s.size<9223372036854775807):
  Calls Tryz.prog 189 #[s] w λe w'=>e= .returned (.int .i64 (runeCount s))∧Below w.heap.size w w':=
 (Any.utf8_RuneCountInString Tryz.lays195 s w hs).mono λe w' ⟨he,pos,hw⟩=>⟨he,by rw[hw];exact(ag _ _).alloc (aa _) _⟩
theorem len_bad (s:ByteArray) (w:World) (hs:s.size<9223372036854775807) (hT:Tabs w) (h:cnt s.data.toList=none):
  Calls Tryz.prog 155 #[s] w λe w'=>e= .returned (.tuple #[(0:Int),(60:Int)])∧Below w.heap.size w w':=by
 have a:=valid_any s w (by omega) hT;rw[jj,h] at a;have b:=hid a;clear a h hT;go_enter Tryz.func155,Tryz.ntmps155;go_wp2_with fail;refine b.out.mono ?_;rintro e d ⟨rfl,c⟩;go_wp2;go_ret2;exact⟨rfl,c⟩
theorem len_ok (s:ByteArray) (m:Nat) (w:World) (hs:s.size<9223372036854775807) (hT:Tabs w) (h:cnt s.data.toList=some m):
  Calls Tryz.prog 155 #[s] w λe w'=>e= .returned (.tuple #[.int .i64 m,(0:Int)])∧Below w.heap.size w w':=by
 have a:=valid_any s w (by omega) hT;rw[jj,h] at a;have b:=λw=>count_any s w hs;rw[jk h] at b;have d:=hid a;have f:=hid b;clear a b h hT;go_enter Tryz.func155,Tryz.ntmps155;go_wp2_with fail;refine d.out.mono ?_;rintro e i ⟨rfl,g⟩;go_wp2_with fail;refine(f.out _).mono ?_;rintro e j ⟨rfl,c⟩;go_wp2;go_ret2;exact⟨rfl,bt g c⟩
end
end Go.Proofs.YtkhmicndehlneaaGreatDoor
