/- Part 8 of the walks and plain laws that this claim uses, joined. Conditions: as each theorem states. -/
import Derived.Test.YtkhmicndehlneaaGreatDoorYbg
namespace Go.Proofs.YtkhmicndehlneaaGreatDoor
set_option maxRecDepth 100000
set_option maxHeartbeats 16000000
set_option linter.unusedVariables false
section
section
open Go.RowKit Go.Lib Go.Sort
attribute [local go_sem ↓] Go.wp_at_zero Go.wp_at_succ
def OpEnd (b:Nat) (w:World) (ans:Bool) (k c:Nat) (w':World):Prop:=∃w2 v,Below w.heap.size w w2∧w'=w2.setCell ⟨b,7,none⟩ (.int .i64 v)∧(ans=true->v=(k:Int)+c)
theorem op_bare (b:Nat) (g:Gst) (k:Nat) (kind:Int) (nt nr ni pt pr pi:Int) (name:ByteArray) (dir:Bool) (dots:List Gst) (at_ ar ai et er ei:Int) (text:ByteArray) (elems:List Gid) (dA:Option Addr) (dc:Nat) (eA:Option Addr) (ec:Nat) (w:World) (hC:Chkr w b g k) (h:cr (⟨kind,⟨⟨nt,nr⟩,ni⟩,⟨⟨pt,pr⟩,pi⟩,name,dir,dots,⟨⟨at_,ar⟩,ai⟩,⟨⟨et,er⟩,ei⟩,text,elems⟩:Gop)=false):
  Calls Tryz.prog 94 #[.pointer (some ⟨b,0,none⟩),.agg #[kind,nt,nr,ni,pt,pr,pi,name,dir,.slice dA dots.length dc,at_,ar,ai,et,er,ei,text,.slice eA elems.length ec]] w λe w'=>e= .returned (.bool false)∧Below w.heap.size w w':=by
 have c:Hid (∀w,Calls Tryz.prog 149 #[.agg #[kind,nt,nr,ni,pt,pr,pi,name,dir,.slice dA dots.length dc,at_,ar,ai,et,er,ei,text,.slice eA elems.length ec]] w λe w'=>e= .returned (.bool false)∧Below w.heap.size w w'):=hid (λw=>(iH (⟨kind,⟨⟨nt,nr⟩,ni⟩,⟨⟨pt,pr⟩,pi⟩,name,dir,dots,⟨⟨at_,ar⟩,ai⟩,⟨⟨et,er⟩,ei⟩,text,elems⟩:Gop) ⟨dA,dc,eA,ec⟩ w).mono (by rintro e w' ⟨rfl,d⟩;exact⟨by rw[h],d⟩));clear h;have f:=hid hC;clear hC;go_enter Tryz.func94,jS
 go_upto_region 2 with(first
  |(go_at_call 149;refine(c.out _).mono ?_;rintro e i ⟨rfl,a⟩)
  |(refine df rfl _ _ rfl _ _ _ _ rfl ?_ az rfl ?_ ?_;(focus(simp;done));kernel_rfl))
 go_wp2;go_ret;refine⟨rfl,?_⟩;exact((ag _ _).alloc (aa _) _).trans (a.mono (by simp))
theorem op_x (b:Nat) (g:Gst) (k:Nat) (kind:Int) (h0:¬kind=0) (h1:¬kind=1) (h2:¬kind=2) (h3:¬kind=3) (h4:¬kind=4) (nt nr ni pt pr pi:Int) (name:ByteArray) (dir:Bool) (dots:List Gst) (at_ ar ai et er ei:Int) (text:ByteArray) (elems:List Gid) (dA:Option Addr) (dc:Nat) (eA:Option Addr) (ec:Nat) (w:World) (hC:Chkr w b g k) (h:cr (⟨kind,⟨⟨nt,nr⟩,ni⟩,⟨⟨pt,pr⟩,pi⟩,name,dir,dots,⟨⟨at_,ar⟩,ai⟩,⟨⟨et,er⟩,ei⟩,text,elems⟩:Gop)=true):
  Calls Tryz.prog 94 #[.pointer (some ⟨b,0,none⟩),.agg #[kind,nt,nr,ni,pt,pr,pi,name,dir,.slice dA dots.length dc,at_,ar,ai,et,er,ei,text,.slice eA elems.length ec]] w λe w'=>e= .returned (.bool false)∧Below w.heap.size w w':=by
 have d:Hid (∀w,Calls Tryz.prog 149 #[.agg #[kind,nt,nr,ni,pt,pr,pi,name,dir,.slice dA dots.length dc,at_,ar,ai,et,er,ei,text,.slice eA elems.length ec]] w λe w'=>e= .returned (.bool true)∧Below w.heap.size w w'):=hid (λw=>(iH (⟨kind,⟨⟨nt,nr⟩,ni⟩,⟨⟨pt,pr⟩,pi⟩,name,dir,dots,⟨⟨at_,ar⟩,ai⟩,⟨⟨et,er⟩,ei⟩,text,elems⟩:Gop) ⟨dA,dc,eA,ec⟩ w).mono (by rintro e w' ⟨rfl,f⟩;exact⟨by rw[h],f⟩));clear h;have j:=hid hC;clear hC;go_enter Tryz.func94,jS
 go_upto_region 3 with(first
  |(go_at_call 149;refine(d.out _).mono ?_;rintro e i ⟨rfl,a⟩)
  |(refine df rfl _ _ rfl _ _ _ _ rfl ?_ az rfl ?_ ?_;(focus(simp;done));kernel_rfl))
 have c:i.heap[w.heap.size]? =some (.cells #[kind,nt,nr,ni,pt,pr,pi,name,dir,.slice dA dots.length dc,at_,ar,ai,et,er,ei,text,.slice eA elems.length ec] 125 (0,0)):=(a.block _ (by simp)).trans (am _ _);have l:=cw0 c;go_wp2;go_ret;refine⟨rfl,?_⟩;exact((ag _ _).alloc (aa _) _).trans (a.mono (by simp))
theorem op_1 (b:Nat) (g:Gst) (k:Nat) (nt nr ni pt pr pi:Int) (name:ByteArray) (dir:Bool) (dots:List Gst) (at_ ar ai et er ei:Int) (text:ByteArray) (elems:List Gid) (dA:Option Addr) (dc:Nat) (eA:Option Addr) (ec:Nat) (w:World) (hC:Chkr w b g k) (hn:name.size<=maxLen) (h:cr (⟨1,⟨⟨nt,nr⟩,ni⟩,⟨⟨pt,pr⟩,pi⟩,name,dir,dots,⟨⟨at_,ar⟩,ai⟩,⟨⟨et,er⟩,ei⟩,text,elems⟩:Gop)=true):
  Calls Tryz.prog 94 #[.pointer (some ⟨b,0,none⟩),.agg #[(1:Int),nt,nr,ni,pt,pr,pi,name,dir,.slice dA dots.length dc,at_,ar,ai,et,er,ei,text,.slice eA elems.length ec]] w λe w'=>e= .returned (.bool (de g (⟨1,⟨⟨nt,nr⟩,ni⟩,⟨⟨pt,pr⟩,pi⟩,name,dir,dots,⟨⟨at_,ar⟩,ai⟩,⟨⟨et,er⟩,ei⟩,text,elems⟩:Gop) k))∧Below w.heap.size w w':=by
 obtain⟨f,l⟩:∃v,v=de g (⟨1,⟨⟨nt,nr⟩,ni⟩,⟨⟨pt,pr⟩,pi⟩,name,dir,dots,⟨⟨at_,ar⟩,ai⟩,⟨⟨et,er⟩,ei⟩,text,elems⟩:Gop) k:=⟨_,rfl⟩;rw[<-l];have A:Hid (f=(cL g ⟨⟨nt,nr⟩,ni⟩ k && du g ⟨⟨pt,pr⟩,pi⟩ k && ek name)):=hid (by rw[l];simp[de]);clear l;have M:Hid (∀w,Calls Tryz.prog 149 #[.agg #[(1:Int),nt,nr,ni,pt,pr,pi,name,dir,.slice dA dots.length dc,at_,ar,ai,et,er,ei,text,.slice eA elems.length ec]] w λe w'=>e= .returned (.bool true)∧Below w.heap.size w w'):=hid (λw=>(iH (⟨1,⟨⟨nt,nr⟩,ni⟩,⟨⟨pt,pr⟩,pi⟩,name,dir,dots,⟨⟨at_,ar⟩,ai⟩,⟨⟨et,er⟩,ei⟩,text,elems⟩:Gop) ⟨dA,dc,eA,ec⟩ w).mono (by rintro e w' ⟨rfl,N⟩;exact⟨by rw[h],N⟩));clear h;have O:=hid hC;clear hC;go_enter Tryz.func94,jS
 go_upto_region 3 with(first
  |(go_at_call 149;refine(M.out _).mono ?_;rintro e r ⟨rfl,n⟩)
  |(refine df rfl _ _ rfl _ _ _ _ rfl ?_ az rfl ?_ ?_;(focus(simp;done));kernel_rfl))
 have t:r.heap[w.heap.size]? =some (.cells #[(1:Int),nt,nr,ni,pt,pr,pi,name,dir,.slice dA dots.length dc,at_,ar,ai,et,er,ei,text,.slice eA elems.length ec] 125 (0,0)):=(n.block _ (by simp)).trans (am _ _);have u:Chkr r b g k:=(O.out.alloc _).below n;have o:Below w.heap.size w r:=((ag _ _).alloc (aa _) _).trans (n.mono (by simp));have F:w.heap.size<r.heap.size:=by have:=n.size;simp at this;omega
 have a:=hid t;have i:=hid u;clear t u;have P:=cw0 a.out;have Q:=cw1 a.out;have R:=cw2 a.out;have S:=cw3 a.out;have B:=cw4 a.out;have C:=cw5 a.out;have D:=cw6 a.out;have s:=cw7 a.out;have x:=hid (it b g k ⟨⟨nt,nr⟩,ni⟩);have y:=hid (kC b g k ⟨⟨pt,pr⟩,pi⟩);have G:=hid (name_any name);go_wp2_with fail;refine(x.out _ i.out.t i.out.r i.out.k).mono ?_;rintro e H ⟨rfl,c⟩;cases m:cL g ⟨⟨nt,nr⟩,ni⟩ k with
 |false=>
  obtain rfl:f=false:=by rw[A.out,m];rfl
  go_wp2;go_ret;exact⟨rfl,o.trans (c.mono (by omega))⟩
 | true=>
  have p:Hid (f=(du g ⟨⟨pt,pr⟩,pi⟩ k && ek name)):=hid (by rw[A.out,m];simp);have d:=hid ((c.block _ F).trans a.out);have z:=hid (i.out.below c);have q:Below w.heap.size w H:=o.trans (c.mono (by omega));have E:w.heap.size<H.heap.size:=by have:=c.size;omega
  clear m A a i P Q R S B C D s x c o;have B:=cw4 d.out;have C:=cw5 d.out;have D:=cw6 d.out;have s:=cw7 d.out;go_wp2_with fail;refine(y.out _ z.out).mono ?_;rintro e I ⟨rfl,j⟩;cases m:du g ⟨⟨pt,pr⟩,pi⟩ k with
  |false=>
   obtain rfl:f=false:=by rw[p.out,m];rfl
   go_wp2;go_ret;exact⟨rfl,q.trans (j.mono (by omega))⟩
  |true=>
   obtain rfl:f=ek name:=by rw[p.out,m];simp
   have J:=hid ((j.block _ E).trans d.out);have K:Below w.heap.size w I:=q.trans (j.mono (by omega));have T:w.heap.size<I.heap.size:=by have:=j.size;omega
   clear m p d z B C D s y j q;have s:=cw7 J.out;go_wp2_with fail;refine(G.out _ (by simp only[maxLen] at hn;omega)).mono ?_;rintro e U ⟨rfl,L⟩;go_wp2;go_ret;exact⟨rfl,K.trans (L.mono (by omega))⟩
theorem op_2 (b:Nat) (g:Gst) (k:Nat) (nt nr ni pt pr pi:Int) (name:ByteArray) (dir:Bool) (dots:List Gst) (at_ ar ai et er ei:Int) (text:ByteArray) (elems:List Gid) (dA:Option Addr) (dc:Nat) (eA:Option Addr) (ec:Nat) (S:Nat->Prop) (w:World) (hC:Chkr w b g k) (hD:StsS w S dA dots) (hl:dots.length<=maxLen) (h:cr (⟨2,⟨⟨nt,nr⟩,ni⟩,⟨⟨pt,pr⟩,pi⟩,name,dir,dots,⟨⟨at_,ar⟩,ai⟩,⟨⟨et,er⟩,ei⟩,text,elems⟩:Gop)=true):
  Calls Tryz.prog 94 #[.pointer (some ⟨b,0,none⟩),.agg #[(2:Int),nt,nr,ni,pt,pr,pi,name,dir,.slice dA dots.length dc,at_,ar,ai,et,er,ei,text,.slice eA elems.length ec]] w λe w'=>e= .returned (.bool (de g (⟨2,⟨⟨nt,nr⟩,ni⟩,⟨⟨pt,pr⟩,pi⟩,name,dir,dots,⟨⟨at_,ar⟩,ai⟩,⟨⟨et,er⟩,ei⟩,text,elems⟩:Gop) k))∧Below w.heap.size w w':=by
 obtain⟨j,f⟩:∃v,v=de g (⟨2,⟨⟨nt,nr⟩,ni⟩,⟨⟨pt,pr⟩,pi⟩,name,dir,dots,⟨⟨at_,ar⟩,ai⟩,⟨⟨et,er⟩,ei⟩,text,elems⟩:Gop) k:=⟨_,rfl⟩;rw[<-f];have r:Hid (j=(cL g ⟨⟨nt,nr⟩,ni⟩ k && il g dots)):=hid (by rw[f];simp[de]);clear f;have D:=hid hD;clear hD;have E:Hid (∀w,Calls Tryz.prog 149 #[.agg #[(2:Int),nt,nr,ni,pt,pr,pi,name,dir,.slice dA dots.length dc,at_,ar,ai,et,er,ei,text,.slice eA elems.length ec]] w λe w'=>e= .returned (.bool true)∧Below w.heap.size w w'):=hid (λw=>(iH (⟨2,⟨⟨nt,nr⟩,ni⟩,⟨⟨pt,pr⟩,pi⟩,name,dir,dots,⟨⟨at_,ar⟩,ai⟩,⟨⟨et,er⟩,ei⟩,text,elems⟩:Gop) ⟨dA,dc,eA,ec⟩ w).mono (by rintro e w' ⟨rfl,F⟩;exact⟨by rw[h],F⟩));clear h;have G:=hid hC;clear hC;go_enter Tryz.func94,jS
 go_upto_region 3 with(first
  |(go_at_call 149;refine(E.out _).mono ?_;rintro e m ⟨rfl,i⟩)
  |(refine df rfl _ _ rfl _ _ _ _ rfl ?_ az rfl ?_ ?_;(focus(simp;done));kernel_rfl))
 have n:m.heap[w.heap.size]? =some (.cells #[(2:Int),nt,nr,ni,pt,pr,pi,name,dir,.slice dA dots.length dc,at_,ar,ai,et,er,ei,text,.slice eA elems.length ec] 125 (0,0)):=(i.block _ (by simp)).trans (am _ _);have o:Chkr m b g k:=(G.out.alloc _).below i;have l:Below w.heap.size w m:=((ag _ _).alloc (aa _) _).trans (i.mono (by simp));have t:w.heap.size<m.heap.size:=by have:=i.size;simp at this;omega
 have a:=hid n;have d:=hid o;clear n o;have H:=cw0 a.out;have I:=cw1 a.out;have J:=cw2 a.out;have K:=cw3 a.out;have u:=cw9 a.out;have p:=hid (it b g k ⟨⟨nt,nr⟩,ni⟩);have x:=hid (cdots_any b g k dA dc dots S);go_wp2_with fail;refine(p.out _ d.out.t d.out.r d.out.k).mono ?_;rintro e y ⟨rfl,c⟩;cases s:cL g ⟨⟨nt,nr⟩,ni⟩ k with
 |false=>
  obtain rfl:j=false:=by rw[r.out,s];rfl
  go_wp2;go_ret;exact⟨rfl,l.trans (c.mono (by omega))⟩
 |true=>
  obtain rfl:j=il g dots:=by rw[r.out,s];simp
  have z:=hid ((c.block _ t).trans a.out);have A:=hid (d.out.below c);have q:Below w.heap.size w y:=l.trans (c.mono (by omega));have L:w.heap.size<y.heap.size:=by have:=c.size;omega
  have B:=hid (RowG.agr D.out (Agr.below q));clear s r a d H I J K u p c l;have u:=cw9 z.out;go_wp2_with fail;refine(x.out _ A.out (by simp only[maxLen] at hl;omega) B.out).mono ?_;rintro e M ⟨rfl,C⟩;go_wp2;go_ret;exact⟨rfl,q.trans (C.mono (by omega))⟩
theorem op_4 (b:Nat) (g:Gst) (k:Nat) (nt nr ni pt pr pi:Int) (name:ByteArray) (dir:Bool) (dots:List Gst) (at_ ar ai et er ei:Int) (text:ByteArray) (elems:List Gid) (dA:Option Addr) (dc:Nat) (eA:Option Addr) (ec:Nat) (S:Nat->Prop) (w:World) (hC:Chkr w b g k) (hD:IdsS w S eA elems) (hl:elems.length<=maxLen) (h:cr (⟨4,⟨⟨nt,nr⟩,ni⟩,⟨⟨pt,pr⟩,pi⟩,name,dir,dots,⟨⟨at_,ar⟩,ai⟩,⟨⟨et,er⟩,ei⟩,text,elems⟩:Gop)=true):
  Calls Tryz.prog 94 #[.pointer (some ⟨b,0,none⟩),.agg #[(4:Int),nt,nr,ni,pt,pr,pi,name,dir,.slice dA dots.length dc,at_,ar,ai,et,er,ei,text,.slice eA elems.length ec]] w λe w'=>e= .returned (.bool (de g (⟨4,⟨⟨nt,nr⟩,ni⟩,⟨⟨pt,pr⟩,pi⟩,name,dir,dots,⟨⟨at_,ar⟩,ai⟩,⟨⟨et,er⟩,ei⟩,text,elems⟩:Gop) k))∧Below w.heap.size w w':=by
 obtain⟨j,f⟩:∃v,v=de g (⟨4,⟨⟨nt,nr⟩,ni⟩,⟨⟨pt,pr⟩,pi⟩,name,dir,dots,⟨⟨at_,ar⟩,ai⟩,⟨⟨et,er⟩,ei⟩,text,elems⟩:Gop) k:=⟨_,rfl⟩;rw[<-f];have s:Hid (j=(cL g ⟨⟨nt,nr⟩,ni⟩ k && fQ g elems k)):=hid (by rw[f];simp[de]);clear f;have D:=hid hD;clear hD;have E:Hid (∀w,Calls Tryz.prog 149 #[.agg #[(4:Int),nt,nr,ni,pt,pr,pi,name,dir,.slice dA dots.length dc,at_,ar,ai,et,er,ei,text,.slice eA elems.length ec]] w λe w'=>e= .returned (.bool true)∧Below w.heap.size w w'):=hid (λw=>(iH (⟨4,⟨⟨nt,nr⟩,ni⟩,⟨⟨pt,pr⟩,pi⟩,name,dir,dots,⟨⟨at_,ar⟩,ai⟩,⟨⟨et,er⟩,ei⟩,text,elems⟩:Gop) ⟨dA,dc,eA,ec⟩ w).mono (by rintro e w' ⟨rfl,F⟩;exact⟨by rw[h],F⟩));clear h;have G:=hid hC;clear hC;go_enter Tryz.func94,jS
 go_upto_region 3 with(first
  |(go_at_call 149;refine(E.out _).mono ?_;rintro e m ⟨rfl,i⟩)
  |(refine df rfl _ _ rfl _ _ _ _ rfl ?_ az rfl ?_ ?_;(focus(simp;done));kernel_rfl))
 have n:m.heap[w.heap.size]? =some (.cells #[(4:Int),nt,nr,ni,pt,pr,pi,name,dir,.slice dA dots.length dc,at_,ar,ai,et,er,ei,text,.slice eA elems.length ec] 125 (0,0)):=(i.block _ (by simp)).trans (am _ _);have o:Chkr m b g k:=(G.out.alloc _).below i;have l:Below w.heap.size w m:=((ag _ _).alloc (aa _) _).trans (i.mono (by simp));have u:w.heap.size<m.heap.size:=by have:=i.size;simp at this;omega
 have a:=hid n;have d:=hid o;clear n o;have H:=cw0 a.out;have I:=cw1 a.out;have J:=cw2 a.out;have K:=cw3 a.out;have p:=cw17 a.out;have q:=hid (it b g k ⟨⟨nt,nr⟩,ni⟩);have x:=hid (celems_any b g k eA ec elems S);go_wp2_with fail;refine(q.out _ d.out.t d.out.r d.out.k).mono ?_;rintro e y ⟨rfl,c⟩;cases t:cL g ⟨⟨nt,nr⟩,ni⟩ k with
 |false=>
  obtain rfl:j=false:=by rw[s.out,t];rfl
  go_wp2;go_ret;exact⟨rfl,l.trans (c.mono (by omega))⟩
 |true=>
  obtain rfl:j=fQ g elems k:=by rw[s.out,t];simp
  have z:=hid ((c.block _ u).trans a.out);have A:=hid (d.out.below c);have r:Below w.heap.size w y:=l.trans (c.mono (by omega));have L:w.heap.size<y.heap.size:=by have:=c.size;omega
  have B:=hid (RowG.agr D.out (Agr.below r));clear t s a d H I J K p q c l;have p:=cw17 z.out;go_wp2_with fail;refine(x.out _ A.out (by simp only[maxLen] at hl;omega) B.out).mono ?_;rintro e M ⟨rfl,C⟩;go_wp2;go_ret;exact⟨rfl,r.trans (C.mono (by omega))⟩
theorem op_0 (b:Nat) (gt gr:Int) (k:Nat) (hk:(k:Int)<9223372036854775807) (nt nr ni pt pr pi:Int) (name:ByteArray) (dir:Bool) (dots:List Gst) (at_ ar ai et er ei:Int) (text:ByteArray) (elems:List Gid) (dA:Option Addr) (dc:Nat) (eA:Option Addr) (ec:Nat) (w:World) (hC:Chkr w b ⟨gt,gr⟩ k) (hF:w.frozen? ⟨b,7,none⟩=false) (hn:name.size<=maxLen) (h:cr (⟨0,⟨⟨nt,nr⟩,ni⟩,⟨⟨pt,pr⟩,pi⟩,name,dir,dots,⟨⟨at_,ar⟩,ai⟩,⟨⟨et,er⟩,ei⟩,text,elems⟩:Gop)=true):
  Calls Tryz.prog 94 #[.pointer (some ⟨b,0,none⟩),.agg #[(0:Int),nt,nr,ni,pt,pr,pi,name,dir,.slice dA dots.length dc,at_,ar,ai,et,er,ei,text,.slice eA elems.length ec]] w λe w'=>e= .returned (.bool (de ⟨gt,gr⟩ (⟨0,⟨⟨nt,nr⟩,ni⟩,⟨⟨pt,pr⟩,pi⟩,name,dir,dots,⟨⟨at_,ar⟩,ai⟩,⟨⟨et,er⟩,ei⟩,text,elems⟩:Gop) k))∧OpEnd b w (de ⟨gt,gr⟩ (⟨0,⟨⟨nt,nr⟩,ni⟩,⟨⟨pt,pr⟩,pi⟩,name,dir,dots,⟨⟨at_,ar⟩,ai⟩,⟨⟨et,er⟩,ei⟩,text,elems⟩:Gop) k) k 1 w':=by
 obtain⟨m,n⟩:∃v,v=de ⟨gt,gr⟩ (⟨0,⟨⟨nt,nr⟩,ni⟩,⟨⟨pt,pr⟩,pi⟩,name,dir,dots,⟨⟨at_,ar⟩,ai⟩,⟨⟨et,er⟩,ei⟩,text,elems⟩:Gop) k:=⟨_,rfl⟩;rw[<-n];have D:Hid (m=(Gid.eqb ⟨⟨nt,nr⟩,ni⟩ ⟨⟨gt,gr⟩,k⟩ && du ⟨gt,gr⟩ ⟨⟨pt,pr⟩,pi⟩ k && ek name)):=hid (by rw[n];simp[de]);clear n;have E:=hid hF;clear hF;have H:Hid (∀w,Calls Tryz.prog 149 #[.agg #[(0:Int),nt,nr,ni,pt,pr,pi,name,dir,.slice dA dots.length dc,at_,ar,ai,et,er,ei,text,.slice eA elems.length ec]] w λe w'=>e= .returned (.bool true)∧Below w.heap.size w w'):=hid (λw=>(iH (⟨0,⟨⟨nt,nr⟩,ni⟩,⟨⟨pt,pr⟩,pi⟩,name,dir,dots,⟨⟨at_,ar⟩,ai⟩,⟨⟨et,er⟩,ei⟩,text,elems⟩:Gop) ⟨dA,dc,eA,ec⟩ w).mono (by rintro e w' ⟨rfl,I⟩;exact⟨by rw[h],I⟩));clear h;have y:=hid hC;clear hC;go_enter Tryz.func94,jS
 go_upto_region 3 with(first
  |(go_at_call 149;refine(H.out _).mono ?_;rintro e j ⟨rfl,r⟩)
  |(refine df rfl _ _ rfl _ _ _ _ rfl ?_ az rfl ?_ ?_;(focus(simp;done));kernel_rfl))
 have z:j.heap[w.heap.size]? =some (.cells #[(0:Int),nt,nr,ni,pt,pr,pi,name,dir,.slice dA dots.length dc,at_,ar,ai,et,er,ei,text,.slice eA elems.length ec] 125 (0,0)):=(r.block _ (by simp)).trans (am _ _);have A:Chkr j b ⟨gt,gr⟩ k:=(y.out.alloc _).below r;have x:Below w.heap.size w j:=((ag _ _).alloc (aa _) _).trans (r.mono (by simp));have K:w.heap.size<j.heap.size:=by have:=r.size;simp at this;omega
 have a:=hid z;have c:=hid A;clear z A;have L:=cw0 a.out;go_upto_region 5 with(fail);have M:=rg1 a.out;have N:=rg2 a.out;have O:=rg3 a.out;have P:=rg4 a.out;have Q:=rg5 a.out;have R:=rg6 a.out;have S:=rg7 a.out;have T:=aj c.out.t;have U:=aj c.out.r;have V:=aj c.out.k;have o:=λd q=>ay (own_any b ⟨gt,gr⟩ k (grow (redrawn j d) q) (c.out.below (bE j d q)));have l:=λd q=>ay (kC b ⟨gt,gr⟩ k ⟨⟨pt,pr⟩,pi⟩ (grow (redrawn j d) q) (c.out.below (bE j d q)));have s:=λd q=>ay (name_any name (grow (redrawn j d) q) (by simp only[maxLen] at hn;omega));simp only[idV] at o l;cases t:Gid.eqb ⟨⟨nt,nr⟩,ni⟩ ⟨⟨gt,gr⟩,k⟩ with
 |false=>
  have J:=eJ nt nr ni gt gr k false t;obtain rfl:m=false:=by rw[D.out,t];rfl
  clear t;refine rqb ?_
  repeat(any_goals(first|go_big_quiet_step (with_reducible first|exact o _ _|exact l _ _|exact s _ _)|quiet_step (with_reducible first|exact o _ _|exact l _ _|exact s _ _)))
  refine qz λi f=> ?_;have g:Below w.heap.size w i:=x.trans (f.mono (by omega));have F:=(c.out.below f).k;have G:i.frozen? ⟨b,7,none⟩=false:=by rw[g.frozen (p:=⟨b,7,none⟩) y.out.lt];exact E.out
  have B:IntKind.i64.wrap ((k:Int)+1)=(k:Int)+1:=ds _ (by omega);go_wp2;go_ret;exact⟨rfl,i,_,g,rfl,λ_=>rfl⟩
 | true=>
  have J:=eJ nt nr ni gt gr k true t;have C:Hid (m=(du ⟨gt,gr⟩ ⟨⟨pt,pr⟩,pi⟩ k && ek name)):=hid (by rw[D.out,t];rfl);clear t D;cases u:du ⟨gt,gr⟩ ⟨⟨pt,pr⟩,pi⟩ k with
  |false=>
   obtain rfl:m=false:=by rw[C.out,u];rfl
   rw[u] at l;clear u;refine rqb ?_
   repeat(any_goals(first|go_big_quiet_step (with_reducible first|exact o _ _|exact l _ _|exact s _ _)|quiet_step (with_reducible first|exact o _ _|exact l _ _|exact s _ _)))
   refine qz λi f=> ?_;have g:Below w.heap.size w i:=x.trans (f.mono (by omega));have F:=(c.out.below f).k;have G:i.frozen? ⟨b,7,none⟩=false:=by rw[g.frozen (p:=⟨b,7,none⟩) y.out.lt];exact E.out
   have B:IntKind.i64.wrap ((k:Int)+1)=(k:Int)+1:=ds _ (by omega);go_wp2;go_ret;exact⟨rfl,i,_,g,rfl,λ_=>rfl⟩
  |true=>
   obtain rfl:m=ek name:=by rw[C.out,u];rfl
   rw[u] at l;clear u;refine rqb ?_
   repeat(any_goals(first|go_big_quiet_step (with_reducible first|exact o _ _|exact l _ _|exact s _ _)|quiet_step (with_reducible first|exact o _ _|exact l _ _|exact s _ _)))
   refine qz λi f=> ?_;have g:Below w.heap.size w i:=x.trans (f.mono (by omega));have F:=(c.out.below f).k;have G:i.frozen? ⟨b,7,none⟩=false:=by rw[g.frozen (p:=⟨b,7,none⟩) y.out.lt];exact E.out
   have B:IntKind.i64.wrap ((k:Int)+1)=(k:Int)+1:=ds _ (by omega);go_wp2;go_ret;exact⟨rfl,i,_,g,rfl,λ_=>rfl⟩
theorem op_3n (b:Nat) (gt gr:Int) (k:Nat) (hk:(k:Int)+2000<9223372036854775807) (nt nr ni pt pr pi:Int) (name:ByteArray) (dir:Bool) (dots:List Gst) (at_ ar ai et er ei:Int) (text:ByteArray) (elems:List Gid) (dA:Option Addr) (dc:Nat) (eA:Option Addr) (ec:Nat) (w:World) (hC:Chkr w b ⟨gt,gr⟩ k) (hF:w.frozen? ⟨b,7,none⟩=false) (hn:text.size<9223372036854775807) (hTb:Tabs w) (hcnt:cnt text.data.toList=none) (h:cr (⟨3,⟨⟨nt,nr⟩,ni⟩,⟨⟨pt,pr⟩,pi⟩,name,dir,dots,⟨⟨at_,ar⟩,ai⟩,⟨⟨et,er⟩,ei⟩,text,elems⟩:Gop)=true):
  Calls Tryz.prog 94 #[.pointer (some ⟨b,0,none⟩),.agg #[(3:Int),nt,nr,ni,pt,pr,pi,name,dir,.slice dA dots.length dc,at_,ar,ai,et,er,ei,text,.slice eA elems.length ec]] w λe w'=>e= .returned (.bool (de ⟨gt,gr⟩ (⟨3,⟨⟨nt,nr⟩,ni⟩,⟨⟨pt,pr⟩,pi⟩,name,dir,dots,⟨⟨at_,ar⟩,ai⟩,⟨⟨et,er⟩,ei⟩,text,elems⟩:Gop) k))∧OpEnd b w (de ⟨gt,gr⟩ (⟨3,⟨⟨nt,nr⟩,ni⟩,⟨⟨pt,pr⟩,pi⟩,name,dir,dots,⟨⟨at_,ar⟩,ai⟩,⟨⟨et,er⟩,ei⟩,text,elems⟩:Gop) k) k (runeCount text) w':=by
 obtain⟨q,s⟩:∃v,v=de ⟨gt,gr⟩ (⟨3,⟨⟨nt,nr⟩,ni⟩,⟨⟨pt,pr⟩,pi⟩,name,dir,dots,⟨⟨at_,ar⟩,ai⟩,⟨⟨et,er⟩,ei⟩,text,elems⟩:Gop) k:=⟨_,rfl⟩;rw[<-s];have C:Hid (q=(cL ⟨gt,gr⟩ ⟨⟨nt,nr⟩,ni⟩ k && du ⟨gt,gr⟩ ⟨⟨at_,ar⟩,ai⟩ k && Gid.eqb ⟨⟨et,er⟩,ei⟩ ⟨⟨gt,gr⟩,k⟩ && false)):=hid (by rw[s];simp[de,textB,jj,hcnt]);have L:Hid (∀w,Tabs w->Calls Tryz.prog 155 #[text] w λe w'=>e= .returned (.tuple #[(0:Int),(60:Int)])∧Below w.heap.size w w'):=hid (λw h=>len_bad text w hn h hcnt);clear s hcnt;have D:=hid hF;have M:=hid hTb;clear hF hTb;have S:Hid (∀w,Calls Tryz.prog 149 #[.agg #[(3:Int),nt,nr,ni,pt,pr,pi,name,dir,.slice dA dots.length dc,at_,ar,ai,et,er,ei,text,.slice eA elems.length ec]] w λe w'=>e= .returned (.bool true)∧Below w.heap.size w w'):=hid (λw=>(iH (⟨3,⟨⟨nt,nr⟩,ni⟩,⟨⟨pt,pr⟩,pi⟩,name,dir,dots,⟨⟨at_,ar⟩,ai⟩,⟨⟨et,er⟩,ei⟩,text,elems⟩:Gop) ⟨dA,dc,eA,ec⟩ w).mono (by rintro e w' ⟨rfl,T⟩;exact⟨by rw[h],T⟩));clear h;have A:=hid hC;clear hC;go_enter Tryz.func94,jS
 go_upto_region 3 with(first
  |(go_at_call 149;refine(S.out _).mono ?_;rintro e E ⟨rfl,r⟩)
  |(refine df rfl _ _ rfl _ _ _ _ rfl ?_ az rfl ?_ ?_;(focus(simp;done));kernel_rfl))
 have F:E.heap[w.heap.size]? =some (.cells #[(3:Int),nt,nr,ni,pt,pr,pi,name,dir,.slice dA dots.length dc,at_,ar,ai,et,er,ei,text,.slice eA elems.length ec] 125 (0,0)):=(r.block _ (by simp)).trans (am _ _);have G:Chkr E b ⟨gt,gr⟩ k:=(A.out.alloc _).below r;have B:Below w.heap.size w E:=((ag _ _).alloc (aa _) _).trans (r.mono (by simp));have N:w.heap.size<E.heap.size:=by have:=r.size;simp at this;omega
 have t:=hid F;have H:=hid G;clear F G r;have U:=cw0 t.out;have O:=cw16 t.out;go_upto_region 14 with(go_at_call 155;refine(L.out _ (M.out.below B)).mono ?_;rintro e P ⟨rfl,u⟩);have g:=hid ((u.block _ N).trans t.out);have a:=hid (H.out.below u);have j:Below w.heap.size w P:=B.trans (u.mono (by omega));clear t H U O u B;obtain⟨W,Q⟩:∃W,W=P:=⟨_,rfl⟩;rw[<-Q] at g a j ⊢;clear Q;have x1:=rg1 g.out;have x2:=rg2 g.out;have x3:=rg3 g.out;have Y:=rg10 g.out;have Z:=rg11 g.out;have ab:=rg12 g.out;have ac:=rg13 g.out;have ad:=rg14 g.out;have ae:=rg15 g.out;have kt:=aj a.out.t;have kr:=aj a.out.r;have kk:=aj a.out.k;have l:=λd n=>ay (it b ⟨gt,gr⟩ k ⟨⟨nt,nr⟩,ni⟩ (grow (redrawn W d) n) (a.out.below (bE W d n)).t (a.out.below (bE W d n)).r (a.out.below (bE W d n)).k);have o:=λd n=>ay (own_any b ⟨gt,gr⟩ k (grow (redrawn W d) n) (a.out.below (bE W d n)));have m:=λd n=>ay (kC b ⟨gt,gr⟩ k ⟨⟨at_,ar⟩,ai⟩ (grow (redrawn W d) n) (a.out.below (bE W d n)));simp only[idV] at l o m;cases x:cL ⟨gt,gr⟩ ⟨⟨nt,nr⟩,ni⟩ k with
 |false=>
  rw[x] at l;obtain rfl:q=false:=by rw[C.out,x];simp
  clear x;refine rqb ?_
  repeat(any_goals(first|go_big_quiet_step (with_reducible first|exact l _ _|exact o _ _|exact m _ _)|quiet_step (with_reducible first|exact l _ _|exact o _ _|exact m _ _)))
  refine qz λi c=> ?_;have f:Below w.heap.size w i:=j.trans (c.mono (by have:=j.size;omega));have I:=(a.out.below c).k;have J:i.frozen? ⟨b,7,none⟩=false:=by rw[f.frozen (p:=⟨b,7,none⟩) A.out.lt];exact D.out
  go_wp2;go_ret;exact⟨rfl,i,_,f,rfl,λh=>by cases h⟩
 | true=>
  rw[x] at l;have K:=hid x;clear x;cases y:du ⟨gt,gr⟩ ⟨⟨at_,ar⟩,ai⟩ k with
  |false=>
   rw[y] at m;obtain rfl:q=false:=by rw[C.out,K.out,y];simp
   clear y;refine rqb ?_
   repeat(any_goals(first|go_big_quiet_step (with_reducible first|exact l _ _|exact o _ _|exact m _ _)|quiet_step (with_reducible first|exact l _ _|exact o _ _|exact m _ _)))
   refine qz λi c=> ?_;have f:Below w.heap.size w i:=j.trans (c.mono (by have:=j.size;omega));have I:=(a.out.below c).k;have J:i.frozen? ⟨b,7,none⟩=false:=by rw[f.frozen (p:=⟨b,7,none⟩) A.out.lt];exact D.out
   go_wp2;go_ret;exact⟨rfl,i,_,f,rfl,λh=>by cases h⟩
  | true=>
   rw[y] at m;have R:=hid y;clear y;cases z:Gid.eqb ⟨⟨et,er⟩,ei⟩ ⟨⟨gt,gr⟩,k⟩ with
   |false=>
    have V:=eJ et er ei gt gr k false z;obtain rfl:q=false:=by rw[C.out,K.out,R.out,z];simp
    clear z;refine rqb ?_
    repeat(any_goals(first|go_big_quiet_step (with_reducible first|exact l _ _|exact o _ _|exact m _ _)|quiet_step (with_reducible first|exact l _ _|exact o _ _|exact m _ _)))
    refine qz λi c=> ?_;have f:Below w.heap.size w i:=j.trans (c.mono (by have:=j.size;omega));have I:=(a.out.below c).k;have J:i.frozen? ⟨b,7,none⟩=false:=by rw[f.frozen (p:=⟨b,7,none⟩) A.out.lt];exact D.out
    go_wp2;go_ret;exact⟨rfl,i,_,f,rfl,λh=>by cases h⟩
   |true=>
    have V:=eJ et er ei gt gr k true z;have X:=hid z;clear z;obtain rfl:q=false:=by rw[C.out,K.out,R.out,X.out];simp
    refine rqb ?_
    repeat(any_goals(first|go_big_quiet_step (with_reducible first|exact l _ _|exact o _ _|exact m _ _)|quiet_step (with_reducible first|exact l _ _|exact o _ _|exact m _ _)))
    refine qz λi c=> ?_;have f:Below w.heap.size w i:=j.trans (c.mono (by have:=j.size;omega));have I:=(a.out.below c).k;have J:i.frozen? ⟨b,7,none⟩=false:=by rw[f.frozen (p:=⟨b,7,none⟩) A.out.lt];exact D.out
    go_wp2;go_ret;exact⟨rfl,i,_,f,rfl,λh=>by cases h⟩
theorem op_3s (b:Nat) (gt gr:Int) (k:Nat) (hk:(k:Int)+2000<9223372036854775807) (nt nr ni pt pr pi:Int) (name:ByteArray) (dir:Bool) (dots:List Gst) (at_ ar ai et er ei:Int) (text:ByteArray) (elems:List Gid) (dA:Option Addr) (dc:Nat) (eA:Option Addr) (ec:Nat) (w:World) (hC:Chkr w b ⟨gt,gr⟩ k) (hF:w.frozen? ⟨b,7,none⟩=false) (hn:text.size<9223372036854775807) (hTb:Tabs w) (m:Nat) (hm:(m:Int)<=9223372036854775807) (hcnt:cnt text.data.toList=some m) (h:cr (⟨3,⟨⟨nt,nr⟩,ni⟩,⟨⟨pt,pr⟩,pi⟩,name,dir,dots,⟨⟨at_,ar⟩,ai⟩,⟨⟨et,er⟩,ei⟩,text,elems⟩:Gop)=true):
  Calls Tryz.prog 94 #[.pointer (some ⟨b,0,none⟩),.agg #[(3:Int),nt,nr,ni,pt,pr,pi,name,dir,.slice dA dots.length dc,at_,ar,ai,et,er,ei,text,.slice eA elems.length ec]] w λe w'=>e= .returned (.bool (de ⟨gt,gr⟩ (⟨3,⟨⟨nt,nr⟩,ni⟩,⟨⟨pt,pr⟩,pi⟩,name,dir,dots,⟨⟨at_,ar⟩,ai⟩,⟨⟨et,er⟩,ei⟩,text,elems⟩:Gop) k))∧OpEnd b w (de ⟨gt,gr⟩ (⟨3,⟨⟨nt,nr⟩,ni⟩,⟨⟨pt,pr⟩,pi⟩,name,dir,dots,⟨⟨at_,ar⟩,ai⟩,⟨⟨et,er⟩,ei⟩,text,elems⟩:Gop) k) k (runeCount text) w':=by
 obtain⟨q,t⟩:∃v,v=de ⟨gt,gr⟩ (⟨3,⟨⟨nt,nr⟩,ni⟩,⟨⟨pt,pr⟩,pi⟩,name,dir,dots,⟨⟨at_,ar⟩,ai⟩,⟨⟨et,er⟩,ei⟩,text,elems⟩:Gop) k:=⟨_,rfl⟩;rw[<-t];have z:Hid (q=(cL ⟨gt,gr⟩ ⟨⟨nt,nr⟩,ni⟩ k && du ⟨gt,gr⟩ ⟨⟨at_,ar⟩,ai⟩ k && Gid.eqb ⟨⟨et,er⟩,ei⟩ ⟨⟨gt,gr⟩,k⟩ && (decide (1<=m) && decide (m<=2000)))):=hid (by rw[t];simp[de,textB,jj,hcnt,jk hcnt]);have Q:Hid (∀w,Tabs w->Calls Tryz.prog 155 #[text] w λe w'=>e= .returned (.tuple #[.int .i64 (m:Nat),(0:Int)])∧Below w.heap.size w w'):=hid (λw h=>len_ok text m w hn h hcnt);have R:=hid (jk hcnt);clear t hcnt;have A:=hid hF;have S:=hid hTb;clear hF hTb;have Z:Hid (∀w,Calls Tryz.prog 149 #[.agg #[(3:Int),nt,nr,ni,pt,pr,pi,name,dir,.slice dA dots.length dc,at_,ar,ai,et,er,ei,text,.slice eA elems.length ec]] w λe w'=>e= .returned (.bool true)∧Below w.heap.size w w'):=hid (λw=>(iH (⟨3,⟨⟨nt,nr⟩,ni⟩,⟨⟨pt,pr⟩,pi⟩,name,dir,dots,⟨⟨at_,ar⟩,ai⟩,⟨⟨et,er⟩,ei⟩,text,elems⟩:Gop) ⟨dA,dc,eA,ec⟩ w).mono (by rintro e w' ⟨rfl,hB⟩;exact⟨by rw[h],hB⟩));clear h;have u:=hid hC;clear hC;go_enter Tryz.func94,jS
 go_upto_region 3 with(first
  |(go_at_call 149;refine(Z.out _).mono ?_;rintro e K ⟨rfl,s⟩)
  |(refine df rfl _ _ rfl _ _ _ _ rfl ?_ az rfl ?_ ?_;(focus(simp;done));kernel_rfl))
 have M:K.heap[w.heap.size]? =some (.cells #[(3:Int),nt,nr,ni,pt,pr,pi,name,dir,.slice dA dots.length dc,at_,ar,ai,et,er,ei,text,.slice eA elems.length ec] 125 (0,0)):=(s.block _ (by simp)).trans (am _ _);have N:Chkr K b ⟨gt,gr⟩ k:=(u.out.alloc _).below s;have F:Below w.heap.size w K:=((ag _ _).alloc (aa _) _).trans (s.mono (by simp));have T:w.heap.size<K.heap.size:=by have:=s.size;simp at this;omega
 have x:=hid M;have O:=hid N;clear M N s;have r0:=cw0 x.out;have U:=cw16 x.out;go_upto_region 14 with(go_at_call 155;refine(Q.out _ (S.out.below F)).mono ?_;rintro e V ⟨rfl,y⟩);have j:=hid ((y.block _ T).trans x.out);have f:=hid (O.out.below y);have i:Below w.heap.size w V:=F.trans (y.mono (by omega));clear x O r0 U y F;obtain⟨W,X⟩:∃W,W=V:=⟨_,rfl⟩;rw[<-X] at j f i ⊢;clear X;have x1:=rg1 j.out;have x2:=rg2 j.out;have x3:=rg3 j.out;have ab:=rg10 j.out;have ac:=rg11 j.out;have ad:=rg12 j.out;have ae:=rg13 j.out;have af:=rg14 j.out;have ah:=rg15 j.out;have kt:=aj f.out.t;have kr:=aj f.out.r;have kk:=aj f.out.k;have l:=λd r=>ay (it b ⟨gt,gr⟩ k ⟨⟨nt,nr⟩,ni⟩ (grow (redrawn W d) r) (f.out.below (bE W d r)).t (f.out.below (bE W d r)).r (f.out.below (bE W d r)).k);have o:=λd r=>ay (own_any b ⟨gt,gr⟩ k (grow (redrawn W d) r) (f.out.below (bE W d r)));have n:=λd r=>ay (kC b ⟨gt,gr⟩ k ⟨⟨at_,ar⟩,ai⟩ (grow (redrawn W d) r) (f.out.below (bE W d r)));simp only[idV] at l o n;cases B:cL ⟨gt,gr⟩ ⟨⟨nt,nr⟩,ni⟩ k with
 |false=>
  rw[B] at l;obtain rfl:q=false:=by rw[z.out,B];simp
  clear B;refine rqb ?_
  repeat(any_goals(first|go_big_quiet_step (with_reducible first|exact l _ _|exact o _ _|exact n _ _)|quiet_step (with_reducible first|exact l _ _|exact o _ _|exact n _ _)))
  refine qz λg a=> ?_;have c:Below w.heap.size w g:=i.trans (a.mono (by have:=i.size;omega));have G:=(f.out.below a).k;have H:g.frozen? ⟨b,7,none⟩=false:=by rw[c.frozen (p:=⟨b,7,none⟩) u.out.lt];exact A.out
  go_wp2;go_ret;exact⟨rfl,g,_,c,rfl,λh=>by cases h⟩
 | true=>
  rw[B] at l;have I:=hid B;clear B;cases C:du ⟨gt,gr⟩ ⟨⟨at_,ar⟩,ai⟩ k with
  |false=>
   rw[C] at n;obtain rfl:q=false:=by rw[z.out,I.out,C];simp
   clear C;refine rqb ?_
   repeat(any_goals(first|go_big_quiet_step (with_reducible first|exact l _ _|exact o _ _|exact n _ _)|quiet_step (with_reducible first|exact l _ _|exact o _ _|exact n _ _)))
   refine qz λg a=> ?_;have c:Below w.heap.size w g:=i.trans (a.mono (by have:=i.size;omega));have G:=(f.out.below a).k;have H:g.frozen? ⟨b,7,none⟩=false:=by rw[c.frozen (p:=⟨b,7,none⟩) u.out.lt];exact A.out
   go_wp2;go_ret;exact⟨rfl,g,_,c,rfl,λh=>by cases h⟩
  | true=>
   rw[C] at n;have L:=hid C;clear C;cases D:Gid.eqb ⟨⟨et,er⟩,ei⟩ ⟨⟨gt,gr⟩,k⟩ with
   |false=>
    have he:=eJ et er ei gt gr k false D;obtain rfl:q=false:=by rw[z.out,I.out,L.out,D];simp
    clear D;refine rqb ?_
    repeat(any_goals(first|go_big_quiet_step (with_reducible first|exact l _ _|exact o _ _|exact n _ _)|quiet_step (with_reducible first|exact l _ _|exact o _ _|exact n _ _)))
    refine qz λg a=> ?_;have c:Below w.heap.size w g:=i.trans (a.mono (by have:=i.size;omega));have G:=(f.out.below a).k;have H:g.frozen? ⟨b,7,none⟩=false:=by rw[c.frozen (p:=⟨b,7,none⟩) u.out.lt];exact A.out
    go_wp2;go_ret;exact⟨rfl,g,_,c,rfl,λh=>by cases h⟩
   | true=>
    have he:=eJ et er ei gt gr k true D;have P:=hid D;clear D;by_cases J:1<=m
    rotate_left
    ·obtain rfl:m=0:=by omega
     obtain rfl:q=false:=by rw[z.out,I.out,L.out,P.out];simp
     refine rqb ?_
     repeat(any_goals(first|go_big_quiet_step (with_reducible first|exact l _ _|exact o _ _|exact n _ _)|quiet_step (with_reducible first|exact l _ _|exact o _ _|exact n _ _)))
     refine qz λg a=> ?_;have c:Below w.heap.size w g:=i.trans (a.mono (by have:=i.size;omega));have G:=(f.out.below a).k;have H:g.frozen? ⟨b,7,none⟩=false:=by rw[c.frozen (p:=⟨b,7,none⟩) u.out.lt];exact A.out
     go_wp2;go_ret;exact⟨rfl,g,_,c,rfl,λh=>by cases h⟩
    have b1:decide (0<m)=true:=by rw[ak];omega
    have b2:(1:Int)<=(m:Int):=by omega
    by_cases E:m<=2000
    ·have b3:(m:Int)<=2000:=by omega
     obtain rfl:q=true:=by rw[z.out,I.out,L.out,P.out];simp[J,E]
     have al:IntKind.i64.wrap ((k:Int)+(m:Int))=(k:Int)+(m:Int):=ds _ (by omega);have HM:=hid J;have Y:=hid E;clear J E;refine rqb ?_
     repeat(any_goals(first|go_big_quiet_step (with_reducible first|exact l _ _|exact o _ _|exact n _ _)|quiet_step (with_reducible first|exact l _ _|exact o _ _|exact n _ _)))
     refine qz λg a=> ?_;have c:Below w.heap.size w g:=i.trans (a.mono (by have:=i.size;omega));have G:=(f.out.below a).k;have H:g.frozen? ⟨b,7,none⟩=false:=by rw[c.frozen (p:=⟨b,7,none⟩) u.out.lt];exact A.out
     go_wp2;go_ret;exact⟨rfl,g,_,c,rfl,λ_=>by rw[R.out]⟩
    ·have b3:¬(m:Int)<=2000:=by omega
     obtain rfl:q=false:=by rw[z.out,I.out,L.out,P.out];simp[E]
     have HM:=hid J;have Y:=hid E;clear J E;refine rqb ?_
     repeat(any_goals(first|go_big_quiet_step (with_reducible first|exact l _ _|exact o _ _|exact n _ _)|quiet_step (with_reducible first|exact l _ _|exact o _ _|exact n _ _)))
     refine qz λg a=> ?_;have c:Below w.heap.size w g:=i.trans (a.mono (by have:=i.size;omega));have G:=(f.out.below a).k;have H:g.frozen? ⟨b,7,none⟩=false:=by rw[c.frozen (p:=⟨b,7,none⟩) u.out.lt];exact A.out
     go_wp2;go_ret;exact⟨rfl,g,_,c,rfl,λh=>by cases h⟩
end
section
open Go.RowKit Go.Lib Go.Sort
def OpFin (b:Nat) (w:World) (ans:Bool) (k c:Nat) (w':World):Prop:=(Below w.heap.size w w'∧(ans=true->c=0))∨OpEnd b w ans k c w'
theorem OpFin.below {b:Nat} {w w':World} {ans:Bool} {k c n:Nat} (h:OpFin b w ans k c w') (hb:n<=b) (hn:n<=w.heap.size):Below n w w':=by
 rcases h with⟨h,-⟩|⟨w2,v,h,rfl,-⟩
 ·exact h.mono hn
 ·exact(h.mono hn).setCell hb _
theorem OpFin.chkr {b:Nat} {w w':World} {k c:Nat} {g:Gst} (h:OpFin b w true k c w') (hC:Chkr w b g k):Chkr w' b g (k+c):=by
 rcases h with⟨h,hc⟩|⟨w2,v,h,rfl,hv⟩
 ·rw[hc rfl];exact hC.below h
 ·have a:=hC.below h;refine⟨(eY _ _ _ _ (by simp)).trans a.t,(eY _ _ _ _ (by simp)).trans a.r,?_⟩;rw[World.cell?_setCell_same _ _ _ (by rw[a.k]),hv rfl];simp
theorem op_any (b:Nat) (g:Gst) (k:Nat) (hk:(k:Int)+2000<9223372036854775807) (o:Gop) (x:OpX) (S:Nat->Prop) (w:World) (hC:Chkr w b g k) (hF:w.frozen? ⟨b,7,none⟩=false) (hI:OpIn w S o x) (ht:o.text.size<9223372036854775807) (hTb:Tabs w):
  Calls Tryz.prog 94 #[.pointer (some ⟨b,0,none⟩),.agg (opA o x)] w λe w'=>e= .returned (.bool (opB g o k))∧OpFin b w (opB g o k) k (eR o) w':=by
 obtain⟨f,⟨⟨l,n⟩,p⟩,⟨⟨q,r⟩,s⟩,c,i,d,⟨⟨j,t⟩,u⟩,⟨⟨v,y⟩,z⟩,text,a⟩:=o;obtain⟨B,C⟩:=g;obtain⟨E,F,G,H⟩:=x;have L:=aL hI.dle hI.dmax;have M:=aL hI.ele hI.emax;have I:=hI.name;have N:=hI.dots;have O:=hI.elems;simp only at L M I N O ht;by_cases D:cr ⟨f,⟨⟨l,n⟩,p⟩,⟨⟨q,r⟩,s⟩,c,i,d,⟨⟨j,t⟩,u⟩,⟨⟨v,y⟩,z⟩,text,a⟩=true
 rotate_left
 ·have P:cr ⟨f,⟨⟨l,n⟩,p⟩,⟨⟨q,r⟩,s⟩,c,i,d,⟨⟨j,t⟩,u⟩,⟨⟨v,y⟩,z⟩,text,a⟩=false:=by simpa using D
  refine(op_bare b ⟨B,C⟩ k f l n p q r s c i d j t u v y z text a E F G H w hC P).mono ?_;rintro e w' ⟨rfl,A⟩;have:opB ⟨B,C⟩ ⟨f,⟨⟨l,n⟩,p⟩,⟨⟨q,r⟩,s⟩,c,i,d,⟨⟨j,t⟩,u⟩,⟨⟨v,y⟩,z⟩,text,a⟩ k=false:=by unfold opB;rw[P];rfl
  rw[this];exact⟨rfl,.inl ⟨A,λh=>by cases h⟩⟩
 have W:opB ⟨B,C⟩ ⟨f,⟨⟨l,n⟩,p⟩,⟨⟨q,r⟩,s⟩,c,i,d,⟨⟨j,t⟩,u⟩,⟨⟨v,y⟩,z⟩,text,a⟩ k=de ⟨B,C⟩ ⟨f,⟨⟨l,n⟩,p⟩,⟨⟨q,r⟩,s⟩,c,i,d,⟨⟨j,t⟩,u⟩,⟨⟨v,y⟩,z⟩,text,a⟩ k:=by unfold opB;rw[D];rfl
 rw[W];clear W;by_cases J:f=0
 ·subst J;exact(op_0 b B C k (by omega) l n p q r s c i d j t u v y z text a E F G H w hC hF I D).mono (by rintro e w' ⟨rfl,A⟩;exact⟨rfl,.inr A⟩)
 by_cases K:f=3
 ·subst K;cases R:cnt text.data.toList with
  |none=>exact(op_3n b B C k hk l n p q r s c i d j t u v y z text a E F G H w hC hF ht hTb R D).mono (by rintro e w' ⟨rfl,A⟩;exact⟨rfl,.inr A⟩)
  | some m=>
   have X:(m:Int)<=9223372036854775807:=by
    have:=jk R;have:=Lib.runeCount_le text;omega
   exact(op_3s b B C k hk l n p q r s c i d j t u v y z text a E F G H w hC hF ht hTb m X R D).mono (by rintro e w' ⟨rfl,A⟩;exact⟨rfl,.inr A⟩)
 have Q:eR ⟨f,⟨⟨l,n⟩,p⟩,⟨⟨q,r⟩,s⟩,c,i,d,⟨⟨j,t⟩,u⟩,⟨⟨v,y⟩,z⟩,text,a⟩=0:=by simp[eR,J,K]
 rw[Q];clear Q;by_cases T:f=1
 ·subst T;exact(op_1 b ⟨B,C⟩ k l n p q r s c i d j t u v y z text a E F G H w hC I D).mono (by rintro e w' ⟨rfl,A⟩;exact⟨rfl,.inl ⟨A,λ_=>rfl⟩⟩)
 by_cases U:f=2
 ·subst U;exact(op_2 b ⟨B,C⟩ k l n p q r s c i d j t u v y z text a E F G H S w hC N L D).mono (by rintro e w' ⟨rfl,A⟩;exact⟨rfl,.inl ⟨A,λ_=>rfl⟩⟩)
 by_cases V:f=4
 ·subst V;exact(op_4 b ⟨B,C⟩ k l n p q r s c i d j t u v y z text a E F G H S w hC O M D).mono (by rintro e w' ⟨rfl,A⟩;exact⟨rfl,.inl ⟨A,λ_=>rfl⟩⟩)
 ·have:de ⟨B,C⟩ ⟨f,⟨⟨l,n⟩,p⟩,⟨⟨q,r⟩,s⟩,c,i,d,⟨⟨j,t⟩,u⟩,⟨⟨v,y⟩,z⟩,text,a⟩ k=false:=by simp[de,J,T,U,K,V]
  rw[this];exact(op_x b ⟨B,C⟩ k f J T U K V l n p q r s c i d j t u v y z text a E F G H w hC D).mono (by rintro e w' ⟨rfl,A⟩;exact⟨rfl,.inl ⟨A,λ_=>rfl⟩⟩)
end
section
open Go.RowKit Go.Lib Go.Sort
attribute [local go_sem ↓] Go.wp_at_zero Go.wp_at_succ
theorem check_head (t r n:Int) (v:List Int) (ut ur:Int) (ops:List Gop) (dA:Option Addr) (dc:Nat) (oA:Option Addr) (oc:Nat) (w:World) (hl:v.length<=dc) (hc:dc<=9223372036854775807) (hn:i63 n) (hD:VecR w dA v)
  (hh:gC ⟨⟨t,r⟩,n,v,⟨ut,ur⟩,ops⟩=false):
  Calls Tryz.prog 48 #[.agg #[t,r,n,.slice dA v.length dc,ut,ur,.slice oA ops.length oc]] w λe w'=>e= .returned (.int .i64 80)∧Below w.heap.size w w':=by
 have f:Hid (∀W,Below w.heap.size w W->Calls Tryz.prog 91 #[.agg #[t,r,n,.slice dA v.length dc,ut,ur,.slice oA ops.length oc]] W λe w'=>e= .returned (.bool false)∧Below W.heap.size W w'):=
  hid (λW c=>(head_any ⟨⟨t,r⟩,n,v,⟨ut,ur⟩,ops⟩ dA dc oA oc W hl hc hn (hD.below c)).mono (by rintro e w' ⟨rfl,c⟩;exact⟨by rw[hh],c⟩))
 clear hh hD;have a:Below w.heap.size w (w.alloc (.cells #[t,r,n,.slice dA v.length dc,ut,ur,.slice oA ops.length oc] 45)):=(ag _ _).alloc (aa _) _;have b:=hid a;clear a;go_enter Tryz.func48,Tryz.ntmps48;go_upto_region 2 with(first|(go_at_call 91;refine(f.out _ b.out).mono ?_;rintro e g ⟨rfl,d⟩));go_wp2;go_ret;exact⟨rfl,b.out.trans (d.mono (by simp))⟩
theorem check_undo (t r n:Int) (v:List Int) (ut ur:Int) (ops:List Gop) (dA:Option Addr) (dc:Nat) (oA:Option Addr) (oc:Nat) (w:World) (hl:v.length<=dc) (hc:dc<=9223372036854775807) (hn:i63 n) (hD:VecR w dA v)
  (hh:gC ⟨⟨t,r⟩,n,v,⟨ut,ur⟩,ops⟩=true) (hu:Gst.eqb ⟨ut,ur⟩ ⟨0,0⟩=false) (z:Int) (hz:z=if (Gst.right ⟨ut,ur⟩ && Gst.lt ⟨ut,ur⟩ ⟨t,r⟩ && decide (ops.length=0))=true then 0 else 80):
  Calls Tryz.prog 48 #[.agg #[t,r,n,.slice dA v.length dc,ut,ur,.slice oA ops.length oc]] w λe w'=>e= .returned (.int .i64 z)∧Below w.heap.size w w':=by
 have L:Hid (∀W,Below w.heap.size w W->Calls Tryz.prog 91 #[.agg #[t,r,n,.slice dA v.length dc,ut,ur,.slice oA ops.length oc]] W λe w'=>e= .returned (.bool true)∧Below W.heap.size W w'):=
  hid (λW u=>(head_any ⟨⟨t,r⟩,n,v,⟨ut,ur⟩,ops⟩ dA dc oA oc W hl hc hn (hD.below u)).mono (by rintro e w' ⟨rfl,u⟩;exact⟨by rw[hh],u⟩))
 have k:=hid hz;have P:=ne_st ut ur 0 0 false hu;have m:=hid (jV ut ur);have o:=hid (cmp_any ut ur t r);clear hh hD hz hu;have p:Below w.heap.size w (w.alloc (.cells #[t,r,n,.slice dA v.length dc,ut,ur,.slice oA ops.length oc] 45)):=(ag _ _).alloc (aa _) _;have q:=hid p;clear p;go_enter Tryz.func48,Tryz.ntmps48;go_upto_region 3 with(first|(go_at_call 91;refine(L.out _ q.out).mono ?_;rintro e F ⟨rfl,d⟩));have a:=hid ((d.block w.heap.size (by simp)).trans (am _ _));have i:Below w.heap.size w F:=q.out.trans (d.mono (by simp));have G:w.heap.size<F.heap.size:=by have:=d.size;simp at this;omega
 clear d;have x:=cw0 a.out;have y:=cw1 a.out;have A:=cw4 a.out;have B:=cw5 a.out;have l:=cw6 a.out;go_wp2_with fail;refine(m.out _).mono ?_;rintro e H ⟨rfl,c⟩;cases C:Gst.right ⟨ut,ur⟩ with
 |false=>
  obtain rfl:z=80:=by rw[k.out,C];rfl
  go_wp2;go_ret;exact⟨rfl,i.trans (c.mono (by omega))⟩
 | true=>
  have D:=hid C;have b:=hid ((c.block _ G).trans a.out);have j:Below w.heap.size w H:=i.trans (c.mono (by omega));have E:w.heap.size<H.heap.size:=by have:=c.size;omega
  clear C a x y A B l c i m;have x:=cw0 b.out;have y:=cw1 b.out;have A:=cw4 b.out;have B:=cw5 b.out;have l:=cw6 b.out;go_wp2_with fail;refine(o.out _).mono ?_;rintro e M ⟨rfl,f⟩;have I:=cmpS_ge ⟨ut,ur⟩ ⟨t,r⟩;cases g:Gst.lt ⟨ut,ur⟩ ⟨t,r⟩ with
  |false=>
   obtain rfl:z=80:=by rw[k.out,D.out,g];rfl
   rw[g] at I;clear g;go_wp2;go_ret;exact⟨rfl,j.trans (f.mono (by omega))⟩
  | true=>
   rw[g] at I;have J:=hid g;have K:=hid ((f.block _ E).trans b.out);have s:Below w.heap.size w M:=j.trans (f.mono (by omega));clear g b x y A B l f j o;have l:=cw6 K.out;by_cases h:ops.length=0
   ·obtain rfl:z=0:=by rw[k.out,D.out,J.out,aN h];rfl
    have N:decide (0<ops.length)=false:=by rw[aU];omega
    have O:=hid h;clear h;go_wp2;go_ret;exact⟨rfl,s⟩
   ·obtain rfl:z=80:=by rw[k.out,D.out,J.out,aE h];rfl
    have N:decide (0<ops.length)=true:=by rw[ak];omega
    have O:=hid h;clear h;go_wp2;go_ret;exact⟨rfl,s⟩
end
end
end Go.Proofs.YtkhmicndehlneaaGreatDoor
