/- Part 14 of the walks and plain laws that this claim uses, joined. Conditions: as each theorem states. -/
import Derived.Test.YtkhmicndehlneaaGreatDoorYgl
import Derived.Test.YtkhmicndehlneaaGreatDoorYgm
namespace Go.Proofs.YtkhmicndehlneaaGreatDoor
set_option maxRecDepth 100000
set_option maxHeartbeats 16000000
set_option linter.unusedVariables false
section
open Go.RowKit Go.Lib Go.Sort
attribute [local go_sem ↓] Go.wp_at_zero Go.wp_at_succ
def bz (l:List UInt8):ByteArray:=⟨l.toArray⟩
theorem bz_app (a b:List UInt8):bz a++bz b=bz (a++b):=by
 apply ByteArray.ext;rw[ByteArray.data_append];apply Array.toList_inj.1;rw[Array.toList_append];simp[bz]
theorem bz_size (l:List UInt8):(bz l).size=l.length:=by simp[bz,ByteArray.size]
theorem bz_list (s:ByteArray):bz s.data.toList=s:=by cases s;rfl
theorem app_nil (s:ByteArray):s++bz []=s:=by
 conv=>lhs;rw[<-bz_list s]
 rw[bz_app,List.append_nil,bz_list]
theorem putS_bz {n:Int} (h:0<=n):putS n.toNat=bz (natZ n):=by unfold putS bz;rw[natZ_of h]
theorem bytes_bz (s:ByteArray):putS s.size++s=bz (bytesZ s):=by
 conv=>lhs;rw[<-bz_list s]
 rw[show putS (bz s.data.toList).size=bz (uvarint s.size) by rw[bz_list];rfl,bz_app];rfl
theorem take_flat {α:Type} {z:α->List UInt8} {d:α} (l:List α) {k:Nat} (h:k<l.length):(l.take (k+1)).flatMap z=(l.take k).flatMap z++z (l.getD k d):=by
 rw[List.take_succ_eq_append_getElem h,List.flatMap_append,List.getD_eq_getElem?_getD,List.getElem?_eq_getElem h];simp
theorem rnat8 (n:Int) (h0:0<=n) (h1:n<9223372036854775808) (w:World):
  Calls Tryz.prog 200 #[n] w λe w'=>e= .returned (.string (bz (natZ n)))∧Below w.heap.size w w':=by
 have HN:=hid (refnat_ok n h0 h1);rw[<-putS_bz h0];clear h0 h1;go_enter Tryz.func200,Tryz.ntmps200;go_wp2_with fail;refine(HN.out _).mono ?_;rintro e w1 ⟨rfl,hB⟩;go_wp2;go_ret;exact⟨rfl,hB⟩
theorem rid8 (t r i:Int) (h:okD ⟨⟨t,r⟩,i⟩) (w:World):
  Calls Tryz.prog 215 #[.agg #[t,r,i]] w λe w'=>e= .returned (.string (bz (idZ ⟨⟨t,r⟩,i⟩)))∧Below w.heap.size w w':=by
 obtain⟨⟨⟨a1,a2⟩,b1,b2⟩,c1,c2⟩:=h;simp only at a1 a2 b1 b2 c1 c2;have e1:bz (idZ ⟨⟨t,r⟩,i⟩)=bz (natZ t)++bz (natZ r)++bz (natZ i):=by rw[bz_app,bz_app];rfl
 rw[e1];have z1:(bz (natZ t)).size<=10:=by rw[bz_size];exact natZ_le a2
 have z2:(bz (natZ r)).size<=10:=by rw[bz_size];exact natZ_le b2
 have z3:(bz (natZ i)).size<=10:=by rw[bz_size];exact natZ_le c2
 have HT:=hid (rnat8 t a1 a2);have HR:=hid (rnat8 r b1 b2);have HI:=hid (rnat8 i c1 c2);clear a1 a2 b1 b2 c1 c2 e1;generalize bz (natZ t)=A at *;generalize bz (natZ r)=B at *;generalize bz (natZ i)=C at *;have s1:¬maxLen<A.size+B.size:=by unfold maxLen;omega
 have s2:¬maxLen<A.size+B.size+C.size:=by unfold maxLen;omega
 have s3:¬maxLen<(A++B).size+C.size:=by rw[ByteArray.size_append];exact s2
 go_enter Tryz.func215,Tryz.ntmps215;go_upto_region 1 with fail;generalize hW:w.alloc (.cells #[t,r,i] 108)=W;have hA:W.heap[w.heap.size]? =some (.cells #[t,r,i] 108 (0,0)):=by rw[<-hW];exact heap_alloc_new _ _
 have HBW:=hid (show Below w.heap.size w W by rw[<-hW];exact(Below.refl _ _).alloc (Nat.le_refl _) _);clear hW;have x0:=rg0 hA;have x1:=rg1 hA;have x2:=rg2 hA;have cT:=λd os=>Calls.regrown_of (HT.out (grow (redrawn W d) os));have cR:=λd os=>Calls.regrown_of (HR.out (grow (redrawn W d) os));have cI:=λd os=>Calls.regrown_of (HI.out (grow (redrawn W d) os));clear hA;refine rqb ?_
 repeat(any_goals(first|go_big_quiet_step (with_reducible first|exact cT _ _|exact cR _ _|exact cI _ _)|quiet_step (with_reducible first|exact cT _ _|exact cR _ _|exact cI _ _)))
 refine qz λwq hBq=> ?_;go_wp2;go_ret;exact⟨rfl,HBW.out.trans (hBq.mono HBW.out.size)⟩
theorem rspell_0 (nt nr ni pt pr pi:Int) (name:ByteArray) (dir:Bool) (dots:List Gst) (at_ ar ai et er ei:Int) (text:ByteArray) (elems:List Gid) (dA:Option Addr) (dc:Nat) (eA:Option Addr) (ec:Nat) (S:Nat->Prop) (w:World) (hk:okO (⟨0,⟨⟨nt,nr⟩,ni⟩,⟨⟨pt,pr⟩,pi⟩,name,dir,dots,⟨⟨at_,ar⟩,ai⟩,⟨⟨et,er⟩,ei⟩,text,elems⟩:Gop)) (hs:Sho (⟨0,⟨⟨nt,nr⟩,ni⟩,⟨⟨pt,pr⟩,pi⟩,name,dir,dots,⟨⟨at_,ar⟩,ai⟩,⟨⟨et,er⟩,ei⟩,text,elems⟩:Gop)) (htx:text.size<=1000000) (hD:StsS w S dA dots) (hE:IdsS w S eA elems):
  Calls Tryz.prog 201 #[.agg #[(0:Int),nt,nr,ni,pt,pr,pi,name,dir,.slice dA dots.length dc,at_,ar,ai,et,er,ei,text,.slice eA elems.length ec]] w λe w'=>e= .returned (.string (bz (opZ (⟨0,⟨⟨nt,nr⟩,ni⟩,⟨⟨pt,pr⟩,pi⟩,name,dir,dots,⟨⟨at_,ar⟩,ai⟩,⟨⟨et,er⟩,ei⟩,text,elems⟩:Gop))))∧Below w.heap.size w w':=by
 obtain⟨ev,hev⟩:∃v,v=bz (opZ (⟨0,⟨⟨nt,nr⟩,ni⟩,⟨⟨pt,pr⟩,pi⟩,name,dir,dots,⟨⟨at_,ar⟩,ai⟩,⟨⟨et,er⟩,ei⟩,text,elems⟩:Gop)):=⟨_,rfl⟩;rw[<-hev];have HEV:=hid hev;clear hev;have hkk:=hk;have hnm:name.size<=100000:=by have:=hs.name;simp only at this;omega
 obtain⟨-,-,hbare,o1,o2,o3,o4,o5,o6,o7,o8⟩:=hk;simp only at o1 o2 o3 o4 o5 o6 o7 o8 hbare;have hK0:(bz (natZ 0)).size<=10:=by rw[bz_size];exact natZ_le (by decide)
 have hN0:(bz (idZ ⟨⟨nt,nr⟩,ni⟩)).size<=30:=by rw[bz_size];exact idZ_le o1
 have HNK:=hid (rnat8 0 (by decide) (by decide));have HIN:=hid (rid8 nt nr ni o1);have hKK:bz (natZ 0)++bz (idZ ⟨⟨nt,nr⟩,ni⟩)=bz (natZ 0++idZ ⟨⟨nt,nr⟩,ni⟩):=bz_app _ _;have HKK:=hid hKK;clear hKK;obtain⟨A,hA0⟩:∃b,b=bz (natZ 0):=⟨_,rfl⟩;obtain⟨B,hB0⟩:∃b,b=bz (idZ ⟨⟨nt,nr⟩,ni⟩):=⟨_,rfl⟩;rw[<-hA0] at hK0 HNK HKK;rw[<-hB0] at hN0 HIN HKK;have s1:¬maxLen<A.size+B.size:=by unfold maxLen;omega
 clear hA0 hB0;go_enter Tryz.func201,Tryz.ntmps201;go_upto_region 1 with fail;generalize hW:w.alloc (.cells #[(0:Int),nt,nr,ni,pt,pr,pi,name,dir,.slice dA dots.length dc,at_,ar,ai,et,er,ei,text,.slice eA elems.length ec] 125)=W;have hA:W.heap[w.heap.size]? =some (.cells #[(0:Int),nt,nr,ni,pt,pr,pi,name,dir,.slice dA dots.length dc,at_,ar,ai,et,er,ei,text,.slice eA elems.length ec] 125 (0,0)):=by rw[<-hW];exact heap_alloc_new _ _
 have HBW:=hid (show Below w.heap.size w W by rw[<-hW];exact(Below.refl _ _).alloc (Nat.le_refl _) _);clear hW;have x0:=rg0 hA;have x1:=rg1 hA;have x2:=rg2 hA;have x3:=rg3 hA;have cK:=λd os=>Calls.regrown_of (HNK.out (grow (redrawn W d) os));have cN:=λd os=>Calls.regrown_of (HIN.out (grow (redrawn W d) os));have HA:=hid hA;clear hA;refine rqb ?_
 repeat(any_goals(first|go_big_quiet_step (with_reducible first|exact cK _ _|exact cN _ _)|quiet_step (with_reducible first|exact cK _ _|exact cN _ _)))
 refine qz λwq hBq=> ?_;have HA1:=hid ((hBq.block w.heap.size (lt_of_block HA.out)).trans HA.out);have HB1:=hid (HBW.out.trans (hBq.mono HBW.out.size));obtain⟨K,hK⟩:∃b,b=A++B:=⟨_,rfl⟩;have HK:=hid (hK.trans HKK.out);have hks:K.size<=40:=by rw[hK,ByteArray.size_append];omega
 rw[<-hK];clear hK s1 hK0 hN0 hBq cK cN x0 x1 x2 x3 HA HBW HNK HIN HKK;obtain⟨W1,hW1⟩:∃x,x=wq:=⟨_,rfl⟩;rw[<-hW1] at HA1 HB1 ⊢;clear hW1;have r0:=cw0 HA1.out;obtain⟨dn,hdn⟩:∃n:Int,n=if dir=true then 1 else 0:=⟨_,rfl⟩;have hd0:0<=dn∧dn<9223372036854775808:=by rw[hdn];cases dir<;>decide
 have RR:=cw8 HA1.out;have HZ:=hid (show bz (opZ (⟨0,⟨⟨nt,nr⟩,ni⟩,⟨⟨pt,pr⟩,pi⟩,name,dir,dots,⟨⟨at_,ar⟩,ai⟩,⟨⟨et,er⟩,ei⟩,text,elems⟩:Gop))=K++bz (idZ ⟨⟨pt,pr⟩,pi⟩)++bz (bytesZ name)++bz (natZ dn) by rw[HK.out,bz_app,bz_app,bz_app];rw[hdn];simp[opZ,List.append_assoc]);have HEZ:=hid (HEV.out.trans HZ.out);clear HEV HZ HK;have z0:(bz (idZ ⟨⟨pt,pr⟩,pi⟩)).size<=30:=by rw[bz_size];exact idZ_le o2
 have H0:=hid (rid8 pt pr pi o2);have z1:(bz (bytesZ name)).size<=100010:=by rw[bz_size];exact(Nat.le_trans (bytesZ_le (by omega)) (by omega:10+name.size<=100010))
 have H1:=hid (show ∀w,Calls Tryz.prog 216 #[name] w λe w'=>e= .returned (.string (bz (bytesZ name)))∧Below w.heap.size w w' from λw=>by have:=refbytes1_any name (by omega) w;rw[bytes_bz] at this;exact this);have z2:(bz (natZ dn)).size<=10:=by rw[bz_size];exact natZ_le hd0.2
 have H2:=hid (rnat8 dn hd0.1 hd0.2);generalize bz (idZ ⟨⟨pt,pr⟩,pi⟩)=L0 at *;generalize bz (bytesZ name)=L1 at *;generalize bz (natZ dn)=L2 at *;obtain rfl:=HEZ.out;clear HEZ;have s0:¬maxLen<K.size+L0.size:=by unfold maxLen;omega
 have s1:¬maxLen<K.size+L0.size+L1.size:=by unfold maxLen;omega
 have s2:¬maxLen<K.size+L0.size+L1.size+L2.size:=by unfold maxLen;omega
 cases dir
 all_goals
  first|obtain rfl:dn=0:=hdn|obtain rfl:dn=1:=hdn
  go_upto_region 7 with fail;clear r0 RR;have x4:=rg4 HA1.out;have x5:=rg5 HA1.out;have x6:=rg6 HA1.out;have x7:=rg7 HA1.out;have c0:=λd os=>Calls.regrown_of (H0.out (grow (redrawn W1 d) os));have c1:=λd os=>Calls.regrown_of (H1.out (grow (redrawn W1 d) os));have c2:=λd os=>Calls.regrown_of (H2.out (grow (redrawn W1 d) os));clear hkk hs hnm htx hD hE hbare o1 o2 o3 o4 o5 o6 o7 o8;refine rqb ?_
  repeat(any_goals(first|go_big_quiet_step (with_reducible first|exact c0 _ _|exact c1 _ _|exact c2 _ _)|quiet_step (with_reducible first|exact c0 _ _|exact c1 _ _|exact c2 _ _)))
  refine qz λwq hBq=> ?_;go_wp2;go_ret;exact⟨rfl,HB1.out.trans (hBq.mono HB1.out.size)⟩
theorem rspell_1 (nt nr ni pt pr pi:Int) (name:ByteArray) (dir:Bool) (dots:List Gst) (at_ ar ai et er ei:Int) (text:ByteArray) (elems:List Gid) (dA:Option Addr) (dc:Nat) (eA:Option Addr) (ec:Nat) (S:Nat->Prop) (w:World) (hk:okO (⟨1,⟨⟨nt,nr⟩,ni⟩,⟨⟨pt,pr⟩,pi⟩,name,dir,dots,⟨⟨at_,ar⟩,ai⟩,⟨⟨et,er⟩,ei⟩,text,elems⟩:Gop)) (hs:Sho (⟨1,⟨⟨nt,nr⟩,ni⟩,⟨⟨pt,pr⟩,pi⟩,name,dir,dots,⟨⟨at_,ar⟩,ai⟩,⟨⟨et,er⟩,ei⟩,text,elems⟩:Gop)) (htx:text.size<=1000000) (hD:StsS w S dA dots) (hE:IdsS w S eA elems):
  Calls Tryz.prog 201 #[.agg #[(1:Int),nt,nr,ni,pt,pr,pi,name,dir,.slice dA dots.length dc,at_,ar,ai,et,er,ei,text,.slice eA elems.length ec]] w λe w'=>e= .returned (.string (bz (opZ (⟨1,⟨⟨nt,nr⟩,ni⟩,⟨⟨pt,pr⟩,pi⟩,name,dir,dots,⟨⟨at_,ar⟩,ai⟩,⟨⟨et,er⟩,ei⟩,text,elems⟩:Gop))))∧Below w.heap.size w w':=by
 obtain⟨ev,hev⟩:∃v,v=bz (opZ (⟨1,⟨⟨nt,nr⟩,ni⟩,⟨⟨pt,pr⟩,pi⟩,name,dir,dots,⟨⟨at_,ar⟩,ai⟩,⟨⟨et,er⟩,ei⟩,text,elems⟩:Gop)):=⟨_,rfl⟩;rw[<-hev];have HEV:=hid hev;clear hev;have hkk:=hk;have hnm:name.size<=100000:=by have:=hs.name;simp only at this;omega
 obtain⟨-,-,hbare,o1,o2,o3,o4,o5,o6,o7,o8⟩:=hk;simp only at o1 o2 o3 o4 o5 o6 o7 o8 hbare;have hK0:(bz (natZ 1)).size<=10:=by rw[bz_size];exact natZ_le (by decide)
 have hN0:(bz (idZ ⟨⟨nt,nr⟩,ni⟩)).size<=30:=by rw[bz_size];exact idZ_le o1
 have HNK:=hid (rnat8 1 (by decide) (by decide));have HIN:=hid (rid8 nt nr ni o1);have hKK:bz (natZ 1)++bz (idZ ⟨⟨nt,nr⟩,ni⟩)=bz (natZ 1++idZ ⟨⟨nt,nr⟩,ni⟩):=bz_app _ _;have HKK:=hid hKK;clear hKK;obtain⟨A,hA0⟩:∃b,b=bz (natZ 1):=⟨_,rfl⟩;obtain⟨B,hB0⟩:∃b,b=bz (idZ ⟨⟨nt,nr⟩,ni⟩):=⟨_,rfl⟩;rw[<-hA0] at hK0 HNK HKK;rw[<-hB0] at hN0 HIN HKK;have s1:¬maxLen<A.size+B.size:=by unfold maxLen;omega
 clear hA0 hB0;go_enter Tryz.func201,Tryz.ntmps201;go_upto_region 1 with fail;generalize hW:w.alloc (.cells #[(1:Int),nt,nr,ni,pt,pr,pi,name,dir,.slice dA dots.length dc,at_,ar,ai,et,er,ei,text,.slice eA elems.length ec] 125)=W;have hA:W.heap[w.heap.size]? =some (.cells #[(1:Int),nt,nr,ni,pt,pr,pi,name,dir,.slice dA dots.length dc,at_,ar,ai,et,er,ei,text,.slice eA elems.length ec] 125 (0,0)):=by rw[<-hW];exact heap_alloc_new _ _
 have HBW:=hid (show Below w.heap.size w W by rw[<-hW];exact(Below.refl _ _).alloc (Nat.le_refl _) _);clear hW;have x0:=rg0 hA;have x1:=rg1 hA;have x2:=rg2 hA;have x3:=rg3 hA;have cK:=λd os=>Calls.regrown_of (HNK.out (grow (redrawn W d) os));have cN:=λd os=>Calls.regrown_of (HIN.out (grow (redrawn W d) os));have HA:=hid hA;clear hA;refine rqb ?_
 repeat(any_goals(first|go_big_quiet_step (with_reducible first|exact cK _ _|exact cN _ _)|quiet_step (with_reducible first|exact cK _ _|exact cN _ _)))
 refine qz λwq hBq=> ?_;have HA1:=hid ((hBq.block w.heap.size (lt_of_block HA.out)).trans HA.out);have HB1:=hid (HBW.out.trans (hBq.mono HBW.out.size));obtain⟨K,hK⟩:∃b,b=A++B:=⟨_,rfl⟩;have HK:=hid (hK.trans HKK.out);have hks:K.size<=40:=by rw[hK,ByteArray.size_append];omega
 rw[<-hK];clear hK s1 hK0 hN0 hBq cK cN x0 x1 x2 x3 HA HBW HNK HIN HKK;obtain⟨W1,hW1⟩:∃x,x=wq:=⟨_,rfl⟩;rw[<-hW1] at HA1 HB1 ⊢;clear hW1;have r0:=cw0 HA1.out;have HZ:=hid (show bz (opZ (⟨1,⟨⟨nt,nr⟩,ni⟩,⟨⟨pt,pr⟩,pi⟩,name,dir,dots,⟨⟨at_,ar⟩,ai⟩,⟨⟨et,er⟩,ei⟩,text,elems⟩:Gop))=K++bz (idZ ⟨⟨pt,pr⟩,pi⟩)++bz (bytesZ name) by rw[HK.out,bz_app,bz_app];simp[opZ,List.append_assoc]);have HEZ:=hid (HEV.out.trans HZ.out);clear HEV HZ HK;have z0:(bz (idZ ⟨⟨pt,pr⟩,pi⟩)).size<=30:=by rw[bz_size];exact idZ_le o2
 have H0:=hid (rid8 pt pr pi o2);have z1:(bz (bytesZ name)).size<=100010:=by rw[bz_size];exact(Nat.le_trans (bytesZ_le (by omega)) (by omega:10+name.size<=100010))
 have H1:=hid (show ∀w,Calls Tryz.prog 216 #[name] w λe w'=>e= .returned (.string (bz (bytesZ name)))∧Below w.heap.size w w' from λw=>by have:=refbytes1_any name (by omega) w;rw[bytes_bz] at this;exact this);generalize bz (idZ ⟨⟨pt,pr⟩,pi⟩)=L0 at *;generalize bz (bytesZ name)=L1 at *;obtain rfl:=HEZ.out;clear HEZ;have s0:¬maxLen<K.size+L0.size:=by unfold maxLen;omega
 have s1:¬maxLen<K.size+L0.size+L1.size:=by unfold maxLen;omega
 go_upto_region 9 with fail;clear r0;have x4:=rg4 HA1.out;have x5:=rg5 HA1.out;have x6:=rg6 HA1.out;have x7:=rg7 HA1.out;have c0:=λd os=>Calls.regrown_of (H0.out (grow (redrawn W1 d) os));have c1:=λd os=>Calls.regrown_of (H1.out (grow (redrawn W1 d) os));clear hkk hs hnm htx hD hE hbare o1 o2 o3 o4 o5 o6 o7 o8;refine rqb ?_
 repeat(any_goals(first|go_big_quiet_step (with_reducible first|exact c0 _ _|exact c1 _ _)|quiet_step (with_reducible first|exact c0 _ _|exact c1 _ _)))
 refine qz λwq hBq=> ?_;go_wp2;go_ret;exact⟨rfl,HB1.out.trans (hBq.mono HB1.out.size)⟩
theorem rspell_2 (nt nr ni pt pr pi:Int) (name:ByteArray) (dir:Bool) (dots:List Gst) (at_ ar ai et er ei:Int) (text:ByteArray) (elems:List Gid) (dA:Option Addr) (dc:Nat) (eA:Option Addr) (ec:Nat) (S:Nat->Prop) (w:World) (hk:okO (⟨2,⟨⟨nt,nr⟩,ni⟩,⟨⟨pt,pr⟩,pi⟩,name,dir,dots,⟨⟨at_,ar⟩,ai⟩,⟨⟨et,er⟩,ei⟩,text,elems⟩:Gop)) (hs:Sho (⟨2,⟨⟨nt,nr⟩,ni⟩,⟨⟨pt,pr⟩,pi⟩,name,dir,dots,⟨⟨at_,ar⟩,ai⟩,⟨⟨et,er⟩,ei⟩,text,elems⟩:Gop)) (htx:text.size<=1000000) (hD:StsS w S dA dots) (hE:IdsS w S eA elems):
  Calls Tryz.prog 201 #[.agg #[(2:Int),nt,nr,ni,pt,pr,pi,name,dir,.slice dA dots.length dc,at_,ar,ai,et,er,ei,text,.slice eA elems.length ec]] w λe w'=>e= .returned (.string (bz (opZ (⟨2,⟨⟨nt,nr⟩,ni⟩,⟨⟨pt,pr⟩,pi⟩,name,dir,dots,⟨⟨at_,ar⟩,ai⟩,⟨⟨et,er⟩,ei⟩,text,elems⟩:Gop))))∧Below w.heap.size w w':=by
 obtain⟨ev,hev⟩:∃v,v=bz (opZ (⟨2,⟨⟨nt,nr⟩,ni⟩,⟨⟨pt,pr⟩,pi⟩,name,dir,dots,⟨⟨at_,ar⟩,ai⟩,⟨⟨et,er⟩,ei⟩,text,elems⟩:Gop)):=⟨_,rfl⟩;rw[<-hev];have HEV:=hid hev;clear hev;have hkk:=hk;have hnm:name.size<=100000:=by have:=hs.name;simp only at this;omega
 obtain⟨-,-,hbare,o1,o2,o3,o4,o5,o6,o7,o8⟩:=hk;simp only at o1 o2 o3 o4 o5 o6 o7 o8 hbare;have hK0:(bz (natZ 2)).size<=10:=by rw[bz_size];exact natZ_le (by decide)
 have hN0:(bz (idZ ⟨⟨nt,nr⟩,ni⟩)).size<=30:=by rw[bz_size];exact idZ_le o1
 have HNK:=hid (rnat8 2 (by decide) (by decide));have HIN:=hid (rid8 nt nr ni o1);have hKK:bz (natZ 2)++bz (idZ ⟨⟨nt,nr⟩,ni⟩)=bz (natZ 2++idZ ⟨⟨nt,nr⟩,ni⟩):=bz_app _ _;have HKK:=hid hKK;clear hKK;obtain⟨A,hA0⟩:∃b,b=bz (natZ 2):=⟨_,rfl⟩;obtain⟨B,hB0⟩:∃b,b=bz (idZ ⟨⟨nt,nr⟩,ni⟩):=⟨_,rfl⟩;rw[<-hA0] at hK0 HNK HKK;rw[<-hB0] at hN0 HIN HKK;have s1:¬maxLen<A.size+B.size:=by unfold maxLen;omega
 clear hA0 hB0;go_enter Tryz.func201,Tryz.ntmps201;go_upto_region 1 with fail;generalize hW:w.alloc (.cells #[(2:Int),nt,nr,ni,pt,pr,pi,name,dir,.slice dA dots.length dc,at_,ar,ai,et,er,ei,text,.slice eA elems.length ec] 125)=W;have hA:W.heap[w.heap.size]? =some (.cells #[(2:Int),nt,nr,ni,pt,pr,pi,name,dir,.slice dA dots.length dc,at_,ar,ai,et,er,ei,text,.slice eA elems.length ec] 125 (0,0)):=by rw[<-hW];exact heap_alloc_new _ _
 have HBW:=hid (show Below w.heap.size w W by rw[<-hW];exact(Below.refl _ _).alloc (Nat.le_refl _) _);clear hW;have x0:=rg0 hA;have x1:=rg1 hA;have x2:=rg2 hA;have x3:=rg3 hA;have cK:=λd os=>Calls.regrown_of (HNK.out (grow (redrawn W d) os));have cN:=λd os=>Calls.regrown_of (HIN.out (grow (redrawn W d) os));have HA:=hid hA;clear hA;refine rqb ?_
 repeat(any_goals(first|go_big_quiet_step (with_reducible first|exact cK _ _|exact cN _ _)|quiet_step (with_reducible first|exact cK _ _|exact cN _ _)))
 refine qz λwq hBq=> ?_;have HA1:=hid ((hBq.block w.heap.size (lt_of_block HA.out)).trans HA.out);have HB1:=hid (HBW.out.trans (hBq.mono HBW.out.size));obtain⟨K,hK⟩:∃b,b=A++B:=⟨_,rfl⟩;have HK:=hid (hK.trans HKK.out);have hks:K.size<=40:=by rw[hK,ByteArray.size_append];omega
 rw[<-hK];clear hK s1 hK0 hN0 hBq cK cN x0 x1 x2 x3 HA HBW HNK HIN HKK;obtain⟨W1,hW1⟩:∃x,x=wq:=⟨_,rfl⟩;rw[<-hW1] at HA1 HB1 ⊢;clear hW1;have r0:=cw0 HA1.out;have hmax:dots.length<=100000:=by have h1:=hs.dots;have h2:=hs.elems;simp only at h1 h2;omega
 have HL:=hid (rnat8 (dots.length:Int) (by omega) (by omega));have HS:=hid hD;have HOK:=hid o4.2;have z0:(bz (natZ (dots.length:Int))).size<=10:=by rw[bz_size];exact natZ_le (by omega)
 have HZ:=hid (show bz (opZ (⟨2,⟨⟨nt,nr⟩,ni⟩,⟨⟨pt,pr⟩,pi⟩,name,dir,dots,⟨⟨at_,ar⟩,ai⟩,⟨⟨et,er⟩,ei⟩,text,elems⟩:Gop))=K++bz (natZ (dots.length:Int))++bz (dots.flatMap stZ) by rw[HK.out,bz_app,bz_app];simp[opZ,List.append_assoc]);have HEZ:=hid (HEV.out.trans HZ.out);clear HZ HEV;generalize bz (natZ (dots.length:Int))=L0 at *;have s0:¬maxLen<K.size+L0.size:=by unfold maxLen;omega
 have r9:=cw9 HA1.out;clear hkk hs hnm htx hD hE hbare o1 o2 o3 o4 o5 o6 o7 o8 HK;go_upto_region 13 with(first|(go_at_call 200;refine(HL.out _).mono ?_;rintro e w2 ⟨rfl,hB2⟩));have HA2:=hid ((hB2.block w.heap.size (lt_of_block HA1.out)).trans HA1.out);have HB2:=hid (HB1.out.trans (hB2.mono HB1.out.size));clear hB2 r0 r9 HA1 HB1 s0;obtain⟨K2,hK2⟩:∃b,b=K++L0:=⟨_,rfl⟩;have hk2:K2.size<=50:=by rw[hK2,ByteArray.size_append];omega
 rw[<-hK2];have HEY:=hid (show ev=K2++bz (dots.flatMap stZ) by rw[HEZ.out,hK2]);clear hK2 hks z0 HEZ;obtain⟨n,hn⟩:∃n,n=dots.length:=⟨_,rfl⟩;have HN:=hid hn;have hmx:n<=100000:=by omega
 clear hn hmax;go_loopw [3,5] (λs i wr=>∃k:Nat,i= .int .i64 k∧k<=n∧Hid (s= .string (K2++bz ((dots.take k).flatMap stZ)))∧Hid (Below w.heap.size w wr)∧Hid (wr.heap[w.heap.size]? =some (.cells #[(2:Int),nt,nr,ni,pt,pr,pi,name,dir,.slice dA dots.length dc,at_,ar,ai,et,er,ei,text,.slice eA elems.length ec] 125 (0,0)))) (λ_ i _=>n-(RowKit.intOf i).toNat)
 case atStart=>exact⟨0,rfl,Nat.zero_le _,hid (by rw[List.take_zero,List.flatMap_nil,app_nil]),HB2,HA2⟩
 case round=>
  obtain⟨j,rfl,hj,HV,HBr,HAr⟩:=hrel;obtain rfl:=HV.out;have r9:wr.cell? ⟨w.heap.size,9,none⟩=some (.slice dA n dc):=by rw[crw HAr.out,HN.out];rfl
  by_cases hjl:j<n
  ·have hl1:(j:Int)<(n:Int):=by omega
   have hl2:decide ((j:Int)<(n:Int))=true:=decide_eq_true hl1;go_upto_region 15 with fail;obtain⟨ab,ao,rfl,-,hab,c0,c1⟩:=StsS.at_ (RowG.agr HS.out (Agr.below HBr.out)) (k:=j) (by have:=HN.out;omega);obtain⟨x,hx⟩:∃x,x=dots.getD j .zero:=⟨_,rfl⟩;have hmem:dots.getD j .zero∈dots:=by rw[List.getD_eq_getElem?_getD,List.getElem?_eq_getElem (by have:=HN.out;omega)];exact List.getElem_mem _
   have hox:=HOK.out _ hmem;rw[<-hx] at c0 c1 hox;have HTK:=hid (show(dots.take (j+1)).flatMap stZ=(dots.take j).flatMap stZ++stZ x by rw[hx];exact take_flat _ (by have:=HN.out;omega));have hsz2:(bz ((dots.take j).flatMap stZ)).size<=20*100000:=by
    rw[bz_size];have h1:=flat_le (z:=stZ) (l:=dots.take j) (c:=20) λy hy=>stZ_le (HOK.out y (List.mem_of_mem_take hy));have h2:(dots.take j).length<=100000:=by rw[List.length_take];omega
    omega
   have hzx:(stZ x).length<=20:=stZ_le hox;clear hx hmem;obtain⟨xt,xr⟩:=x;simp only at c0 c1;have e1:bz (stZ ⟨xt,xr⟩)=bz (natZ xt)++bz (natZ xr):=by rw[bz_app];rfl
   have HE1:=hid e1;have za:(bz (natZ xt)).size<=10:=by rw[bz_size];exact natZ_le hox.1.2
   have zb:(bz (natZ xr)).size<=10:=by rw[bz_size];exact natZ_le hox.2.2
   have h0:=rnat8 xt hox.1.1 hox.1.2;have h1:=rnat8 xr hox.2.1 hox.2.2;have HJ:=hid (show K2++bz ((dots.take (j+1)).flatMap stZ)=K2++bz ((dots.take j).flatMap stZ)++bz (natZ xt)++bz (natZ xr) by rw[HTK.out,<-bz_app,e1];simp only[ByteArray.append_assoc]);obtain⟨M,hM⟩:∃b,b=K2++bz ((dots.take j).flatMap stZ):=⟨_,rfl⟩;have hMs:M.size<=50+20*100000:=by rw[hM,ByteArray.size_append];omega
   rw[<-hM] at HJ ⊢;have HH0:=hid h0;have HH1:=hid h1;clear e1 hM hsz2 hzx hox HV h0 h1 HE1;generalize bz (natZ xt)=X0 at *;generalize bz (natZ xr)=X1 at *;have s1:¬maxLen<M.size+X0.size:=by unfold maxLen;omega
   have s2:¬maxLen<M.size+X0.size+X1.size:=by unfold maxLen;omega
   have x0:=cell_regrown c0;have x1:=cell_regrown c1;have x9:=cell_regrown r9;have cc0:=λd os=>Calls.regrown_of (HH0.out (grow (redrawn wr d) os));have cc1:=λd os=>Calls.regrown_of (HH1.out (grow (redrawn wr d) os));clear c0 c1 r9;refine rqb ?_
   repeat(any_goals(first|go_big_quiet_step (with_reducible first|exact cc0 _ _|exact cc1 _ _)|quiet_step (with_reducible first|exact cc0 _ _|exact cc1 _ _)))
   refine qz λwq hBq=> ?_;have HA3:=hid ((hBq.block w.heap.size (lt_of_block HAr.out)).trans HAr.out);have HB3:=hid (HBr.out.trans (hBq.mono HBr.out.size));have hwk:IntKind.i64.wrap ((j:Int)+1)=(j:Int)+1:=IntWalk.i64_in _ (by omega);clear hBq cc0 cc1 x0 x1 x9 hl1 hl2;go_wp2;go_roundw
   case rel=>exact⟨j+1,by go_num,by omega,hid (by rw[HJ.out]),HB3,HA3⟩
   case measure=>simp[RowKit.intOf];omega
  ·obtain rfl:j=n:=by omega
   have hl1:¬(j:Int)<(j:Int):=by omega
   obtain rfl:ev=K2++bz ((dots.take j).flatMap stZ):=by rw[HEY.out,HN.out,List.take_length]
   go_wp2;go_ret;exact⟨rfl,HBr.out⟩
theorem rspell_3 (nt nr ni pt pr pi:Int) (name:ByteArray) (dir:Bool) (dots:List Gst) (at_ ar ai et er ei:Int) (text:ByteArray) (elems:List Gid) (dA:Option Addr) (dc:Nat) (eA:Option Addr) (ec:Nat) (S:Nat->Prop) (w:World) (hk:okO (⟨3,⟨⟨nt,nr⟩,ni⟩,⟨⟨pt,pr⟩,pi⟩,name,dir,dots,⟨⟨at_,ar⟩,ai⟩,⟨⟨et,er⟩,ei⟩,text,elems⟩:Gop)) (hs:Sho (⟨3,⟨⟨nt,nr⟩,ni⟩,⟨⟨pt,pr⟩,pi⟩,name,dir,dots,⟨⟨at_,ar⟩,ai⟩,⟨⟨et,er⟩,ei⟩,text,elems⟩:Gop)) (htx:text.size<=1000000) (hD:StsS w S dA dots) (hE:IdsS w S eA elems):
  Calls Tryz.prog 201 #[.agg #[(3:Int),nt,nr,ni,pt,pr,pi,name,dir,.slice dA dots.length dc,at_,ar,ai,et,er,ei,text,.slice eA elems.length ec]] w λe w'=>e= .returned (.string (bz (opZ (⟨3,⟨⟨nt,nr⟩,ni⟩,⟨⟨pt,pr⟩,pi⟩,name,dir,dots,⟨⟨at_,ar⟩,ai⟩,⟨⟨et,er⟩,ei⟩,text,elems⟩:Gop))))∧Below w.heap.size w w':=by
 obtain⟨ev,hev⟩:∃v,v=bz (opZ (⟨3,⟨⟨nt,nr⟩,ni⟩,⟨⟨pt,pr⟩,pi⟩,name,dir,dots,⟨⟨at_,ar⟩,ai⟩,⟨⟨et,er⟩,ei⟩,text,elems⟩:Gop)):=⟨_,rfl⟩;rw[<-hev];have HEV:=hid hev;clear hev;have hkk:=hk;have hnm:name.size<=100000:=by have:=hs.name;simp only at this;omega
 obtain⟨-,-,hbare,o1,o2,o3,o4,o5,o6,o7,o8⟩:=hk;simp only at o1 o2 o3 o4 o5 o6 o7 o8 hbare;have hK0:(bz (natZ 3)).size<=10:=by rw[bz_size];exact natZ_le (by decide)
 have hN0:(bz (idZ ⟨⟨nt,nr⟩,ni⟩)).size<=30:=by rw[bz_size];exact idZ_le o1
 have HNK:=hid (rnat8 3 (by decide) (by decide));have HIN:=hid (rid8 nt nr ni o1);have hKK:bz (natZ 3)++bz (idZ ⟨⟨nt,nr⟩,ni⟩)=bz (natZ 3++idZ ⟨⟨nt,nr⟩,ni⟩):=bz_app _ _;have HKK:=hid hKK;clear hKK;obtain⟨A,hA0⟩:∃b,b=bz (natZ 3):=⟨_,rfl⟩;obtain⟨B,hB0⟩:∃b,b=bz (idZ ⟨⟨nt,nr⟩,ni⟩):=⟨_,rfl⟩;rw[<-hA0] at hK0 HNK HKK;rw[<-hB0] at hN0 HIN HKK;have s1:¬maxLen<A.size+B.size:=by unfold maxLen;omega
 clear hA0 hB0;go_enter Tryz.func201,Tryz.ntmps201;go_upto_region 1 with fail;generalize hW:w.alloc (.cells #[(3:Int),nt,nr,ni,pt,pr,pi,name,dir,.slice dA dots.length dc,at_,ar,ai,et,er,ei,text,.slice eA elems.length ec] 125)=W;have hA:W.heap[w.heap.size]? =some (.cells #[(3:Int),nt,nr,ni,pt,pr,pi,name,dir,.slice dA dots.length dc,at_,ar,ai,et,er,ei,text,.slice eA elems.length ec] 125 (0,0)):=by rw[<-hW];exact heap_alloc_new _ _
 have HBW:=hid (show Below w.heap.size w W by rw[<-hW];exact(Below.refl _ _).alloc (Nat.le_refl _) _);clear hW;have x0:=rg0 hA;have x1:=rg1 hA;have x2:=rg2 hA;have x3:=rg3 hA;have cK:=λd os=>Calls.regrown_of (HNK.out (grow (redrawn W d) os));have cN:=λd os=>Calls.regrown_of (HIN.out (grow (redrawn W d) os));have HA:=hid hA;clear hA;refine rqb ?_
 repeat(any_goals(first|go_big_quiet_step (with_reducible first|exact cK _ _|exact cN _ _)|quiet_step (with_reducible first|exact cK _ _|exact cN _ _)))
 refine qz λwq hBq=> ?_;have HA1:=hid ((hBq.block w.heap.size (lt_of_block HA.out)).trans HA.out);have HB1:=hid (HBW.out.trans (hBq.mono HBW.out.size));obtain⟨K,hK⟩:∃b,b=A++B:=⟨_,rfl⟩;have HK:=hid (hK.trans HKK.out);have hks:K.size<=40:=by rw[hK,ByteArray.size_append];omega
 rw[<-hK];clear hK s1 hK0 hN0 hBq cK cN x0 x1 x2 x3 HA HBW HNK HIN HKK;obtain⟨W1,hW1⟩:∃x,x=wq:=⟨_,rfl⟩;rw[<-hW1] at HA1 HB1 ⊢;clear hW1;have r0:=cw0 HA1.out;have HZ:=hid (show bz (opZ (⟨3,⟨⟨nt,nr⟩,ni⟩,⟨⟨pt,pr⟩,pi⟩,name,dir,dots,⟨⟨at_,ar⟩,ai⟩,⟨⟨et,er⟩,ei⟩,text,elems⟩:Gop))=K++bz (idZ ⟨⟨at_,ar⟩,ai⟩)++bz (idZ ⟨⟨et,er⟩,ei⟩)++bz (bytesZ text) by rw[HK.out,bz_app,bz_app,bz_app];simp[opZ,List.append_assoc]);have HEZ:=hid (HEV.out.trans HZ.out);clear HEV HZ HK;have z0:(bz (idZ ⟨⟨at_,ar⟩,ai⟩)).size<=30:=by rw[bz_size];exact idZ_le o5
 have H0:=hid (rid8 at_ ar ai o5);have z1:(bz (idZ ⟨⟨et,er⟩,ei⟩)).size<=30:=by rw[bz_size];exact idZ_le o6
 have H1:=hid (rid8 et er ei o6);have z2:(bz (bytesZ text)).size<=1000010:=by rw[bz_size];exact(Nat.le_trans (bytesZ_le (by omega)) (by omega:10+text.size<=1000010))
 have H2:=hid (show ∀w,Calls Tryz.prog 216 #[text] w λe w'=>e= .returned (.string (bz (bytesZ text)))∧Below w.heap.size w w' from λw=>by have:=refbytes1_any text (by omega) w;rw[bytes_bz] at this;exact this);generalize bz (idZ ⟨⟨at_,ar⟩,ai⟩)=L0 at *;generalize bz (idZ ⟨⟨et,er⟩,ei⟩)=L1 at *;generalize bz (bytesZ text)=L2 at *;obtain rfl:=HEZ.out;clear HEZ;have s0:¬maxLen<K.size+L0.size:=by unfold maxLen;omega
 have s1:¬maxLen<K.size+L0.size+L1.size:=by unfold maxLen;omega
 have s2:¬maxLen<K.size+L0.size+L1.size+L2.size:=by unfold maxLen;omega
 go_upto_region 18 with fail;clear r0;have x10:=rg10 HA1.out;have x11:=rg11 HA1.out;have x12:=rg12 HA1.out;have x13:=rg13 HA1.out;have x14:=rg14 HA1.out;have x15:=rg15 HA1.out;have x16:=rg16 HA1.out;have c0:=λd os=>Calls.regrown_of (H0.out (grow (redrawn W1 d) os));have c1:=λd os=>Calls.regrown_of (H1.out (grow (redrawn W1 d) os));have c2:=λd os=>Calls.regrown_of (H2.out (grow (redrawn W1 d) os));clear hkk hs hnm htx hD hE hbare o1 o2 o3 o4 o5 o6 o7 o8;refine rqb ?_
 repeat(any_goals(first|go_big_quiet_step (with_reducible first|exact c0 _ _|exact c1 _ _|exact c2 _ _)|quiet_step (with_reducible first|exact c0 _ _|exact c1 _ _|exact c2 _ _)))
 refine qz λwq hBq=> ?_;go_wp2;go_ret;exact⟨rfl,HB1.out.trans (hBq.mono HB1.out.size)⟩
theorem rspell_4 (nt nr ni pt pr pi:Int) (name:ByteArray) (dir:Bool) (dots:List Gst) (at_ ar ai et er ei:Int) (text:ByteArray) (elems:List Gid) (dA:Option Addr) (dc:Nat) (eA:Option Addr) (ec:Nat) (S:Nat->Prop) (w:World) (hk:okO (⟨4,⟨⟨nt,nr⟩,ni⟩,⟨⟨pt,pr⟩,pi⟩,name,dir,dots,⟨⟨at_,ar⟩,ai⟩,⟨⟨et,er⟩,ei⟩,text,elems⟩:Gop)) (hs:Sho (⟨4,⟨⟨nt,nr⟩,ni⟩,⟨⟨pt,pr⟩,pi⟩,name,dir,dots,⟨⟨at_,ar⟩,ai⟩,⟨⟨et,er⟩,ei⟩,text,elems⟩:Gop)) (htx:text.size<=1000000) (hD:StsS w S dA dots) (hE:IdsS w S eA elems):
  Calls Tryz.prog 201 #[.agg #[(4:Int),nt,nr,ni,pt,pr,pi,name,dir,.slice dA dots.length dc,at_,ar,ai,et,er,ei,text,.slice eA elems.length ec]] w λe w'=>e= .returned (.string (bz (opZ (⟨4,⟨⟨nt,nr⟩,ni⟩,⟨⟨pt,pr⟩,pi⟩,name,dir,dots,⟨⟨at_,ar⟩,ai⟩,⟨⟨et,er⟩,ei⟩,text,elems⟩:Gop))))∧Below w.heap.size w w':=by
 obtain⟨ev,hev⟩:∃v,v=bz (opZ (⟨4,⟨⟨nt,nr⟩,ni⟩,⟨⟨pt,pr⟩,pi⟩,name,dir,dots,⟨⟨at_,ar⟩,ai⟩,⟨⟨et,er⟩,ei⟩,text,elems⟩:Gop)):=⟨_,rfl⟩;rw[<-hev];have HEV:=hid hev;clear hev;have hkk:=hk;have hnm:name.size<=100000:=by have:=hs.name;simp only at this;omega
 obtain⟨-,-,hbare,o1,o2,o3,o4,o5,o6,o7,o8⟩:=hk;simp only at o1 o2 o3 o4 o5 o6 o7 o8 hbare;have hK0:(bz (natZ 4)).size<=10:=by rw[bz_size];exact natZ_le (by decide)
 have hN0:(bz (idZ ⟨⟨nt,nr⟩,ni⟩)).size<=30:=by rw[bz_size];exact idZ_le o1
 have HNK:=hid (rnat8 4 (by decide) (by decide));have HIN:=hid (rid8 nt nr ni o1);have hKK:bz (natZ 4)++bz (idZ ⟨⟨nt,nr⟩,ni⟩)=bz (natZ 4++idZ ⟨⟨nt,nr⟩,ni⟩):=bz_app _ _;have HKK:=hid hKK;clear hKK;obtain⟨A,hA0⟩:∃b,b=bz (natZ 4):=⟨_,rfl⟩;obtain⟨B,hB0⟩:∃b,b=bz (idZ ⟨⟨nt,nr⟩,ni⟩):=⟨_,rfl⟩;rw[<-hA0] at hK0 HNK HKK;rw[<-hB0] at hN0 HIN HKK;have s1:¬maxLen<A.size+B.size:=by unfold maxLen;omega
 clear hA0 hB0;go_enter Tryz.func201,Tryz.ntmps201;go_upto_region 1 with fail;generalize hW:w.alloc (.cells #[(4:Int),nt,nr,ni,pt,pr,pi,name,dir,.slice dA dots.length dc,at_,ar,ai,et,er,ei,text,.slice eA elems.length ec] 125)=W;have hA:W.heap[w.heap.size]? =some (.cells #[(4:Int),nt,nr,ni,pt,pr,pi,name,dir,.slice dA dots.length dc,at_,ar,ai,et,er,ei,text,.slice eA elems.length ec] 125 (0,0)):=by rw[<-hW];exact heap_alloc_new _ _
 have HBW:=hid (show Below w.heap.size w W by rw[<-hW];exact(Below.refl _ _).alloc (Nat.le_refl _) _);clear hW;have x0:=rg0 hA;have x1:=rg1 hA;have x2:=rg2 hA;have x3:=rg3 hA;have cK:=λd os=>Calls.regrown_of (HNK.out (grow (redrawn W d) os));have cN:=λd os=>Calls.regrown_of (HIN.out (grow (redrawn W d) os));have HA:=hid hA;clear hA;refine rqb ?_
 repeat(any_goals(first|go_big_quiet_step (with_reducible first|exact cK _ _|exact cN _ _)|quiet_step (with_reducible first|exact cK _ _|exact cN _ _)))
 refine qz λwq hBq=> ?_;have HA1:=hid ((hBq.block w.heap.size (lt_of_block HA.out)).trans HA.out);have HB1:=hid (HBW.out.trans (hBq.mono HBW.out.size));obtain⟨K,hK⟩:∃b,b=A++B:=⟨_,rfl⟩;have HK:=hid (hK.trans HKK.out);have hks:K.size<=40:=by rw[hK,ByteArray.size_append];omega
 rw[<-hK];clear hK s1 hK0 hN0 hBq cK cN x0 x1 x2 x3 HA HBW HNK HIN HKK;obtain⟨W1,hW1⟩:∃x,x=wq:=⟨_,rfl⟩;rw[<-hW1] at HA1 HB1 ⊢;clear hW1;have r0:=cw0 HA1.out;have hmax:elems.length<=100000:=by have h1:=hs.dots;have h2:=hs.elems;simp only at h1 h2;omega
 have HL:=hid (rnat8 (elems.length:Int) (by omega) (by omega));have HS:=hid hE;have HOK:=hid o8.2;have z0:(bz (natZ (elems.length:Int))).size<=10:=by rw[bz_size];exact natZ_le (by omega)
 have HZ:=hid (show bz (opZ (⟨4,⟨⟨nt,nr⟩,ni⟩,⟨⟨pt,pr⟩,pi⟩,name,dir,dots,⟨⟨at_,ar⟩,ai⟩,⟨⟨et,er⟩,ei⟩,text,elems⟩:Gop))=K++bz (natZ (elems.length:Int))++bz (elems.flatMap idZ) by rw[HK.out,bz_app,bz_app];simp[opZ,List.append_assoc]);have HEZ:=hid (HEV.out.trans HZ.out);clear HZ HEV;generalize bz (natZ (elems.length:Int))=L0 at *;have s0:¬maxLen<K.size+L0.size:=by unfold maxLen;omega
 have r17:=cw17 HA1.out;clear hkk hs hnm htx hD hE hbare o1 o2 o3 o4 o5 o6 o7 o8 HK;go_upto_region 21 with(first|(go_at_call 200;refine(HL.out _).mono ?_;rintro e w2 ⟨rfl,hB2⟩));have HA2:=hid ((hB2.block w.heap.size (lt_of_block HA1.out)).trans HA1.out);have HB2:=hid (HB1.out.trans (hB2.mono HB1.out.size));clear hB2 r0 r17 HA1 HB1 s0;obtain⟨K2,hK2⟩:∃b,b=K++L0:=⟨_,rfl⟩;have hk2:K2.size<=50:=by rw[hK2,ByteArray.size_append];omega
 rw[<-hK2];have HEY:=hid (show ev=K2++bz (elems.flatMap idZ) by rw[HEZ.out,hK2]);clear hK2 hks z0 HEZ;obtain⟨n,hn⟩:∃n,n=elems.length:=⟨_,rfl⟩;have HN:=hid hn;have hmx:n<=100000:=by omega
 clear hn hmax;go_loopw [3,6] (λs i wr=>∃k:Nat,i= .int .i64 k∧k<=n∧Hid (s= .string (K2++bz ((elems.take k).flatMap idZ)))∧Hid (Below w.heap.size w wr)∧Hid (wr.heap[w.heap.size]? =some (.cells #[(4:Int),nt,nr,ni,pt,pr,pi,name,dir,.slice dA dots.length dc,at_,ar,ai,et,er,ei,text,.slice eA elems.length ec] 125 (0,0)))) (λ_ i _=>n-(RowKit.intOf i).toNat)
 case atStart=>exact⟨0,rfl,Nat.zero_le _,hid (by rw[List.take_zero,List.flatMap_nil,app_nil]),HB2,HA2⟩
 case round=>
  obtain⟨j,rfl,hj,HV,HBr,HAr⟩:=hrel;obtain rfl:=HV.out;have r17:wr.cell? ⟨w.heap.size,17,none⟩=some (.slice eA n ec):=by rw[crw HAr.out,HN.out];rfl
  by_cases hjl:j<n
  ·have hl1:(j:Int)<(n:Int):=by omega
   have hl2:decide ((j:Int)<(n:Int))=true:=decide_eq_true hl1;go_upto_region 23 with fail;obtain⟨ab,ao,rfl,-,hab,c0,c1,c2⟩:=IdsS.at_ (RowG.agr HS.out (Agr.below HBr.out)) (k:=j) (by have:=HN.out;omega);obtain⟨x,hx⟩:∃x,x=elems.getD j .zero:=⟨_,rfl⟩;have hmem:elems.getD j .zero∈elems:=by rw[List.getD_eq_getElem?_getD,List.getElem?_eq_getElem (by have:=HN.out;omega)];exact List.getElem_mem _
   have hox:=HOK.out _ hmem;rw[<-hx] at c0 c1 c2 hox;have HTK:=hid (show(elems.take (j+1)).flatMap idZ=(elems.take j).flatMap idZ++idZ x by rw[hx];exact take_flat _ (by have:=HN.out;omega));have hsz2:(bz ((elems.take j).flatMap idZ)).size<=30*100000:=by
    rw[bz_size];have h1:=flat_le (z:=idZ) (l:=elems.take j) (c:=30) λy hy=>idZ_le (HOK.out y (List.mem_of_mem_take hy));have h2:(elems.take j).length<=100000:=by rw[List.length_take];omega
    omega
   have hzx:(idZ x).length<=30:=idZ_le hox;clear hx hmem;obtain⟨⟨xt,xr⟩,xi⟩:=x;simp only at c0 c1 c2;have h0:=rid8 xt xr xi hox;have HJ:=hid (show K2++bz ((elems.take (j+1)).flatMap idZ)=K2++bz ((elems.take j).flatMap idZ)++bz (idZ ⟨⟨xt,xr⟩,xi⟩) by rw[HTK.out,<-bz_app];simp only[ByteArray.append_assoc]);obtain⟨M,hM⟩:∃b,b=K2++bz ((elems.take j).flatMap idZ):=⟨_,rfl⟩;have hMs:M.size<=50+30*100000:=by rw[hM,ByteArray.size_append];omega
   rw[<-hM] at HJ ⊢;have hzx2:(bz (idZ ⟨⟨xt,xr⟩,xi⟩)).size<=30:=by rw[bz_size];exact hzx
   have HH0:=hid h0;clear hM hsz2 hzx hox HV h0;generalize bz (idZ ⟨⟨xt,xr⟩,xi⟩)=X0 at *;have s1:¬maxLen<M.size+X0.size:=by unfold maxLen;omega
   have x0:=cell_regrown c0;have x1:=cell_regrown c1;have x2:=cell_regrown c2;have x17:=cell_regrown r17;have cc0:=λd os=>Calls.regrown_of (HH0.out (grow (redrawn wr d) os));clear c0 c1 c2 r17;refine wp_plain_quiet_below ?_
   repeat(any_goals(first|go_big_quiet_step (with_reducible exact cc0 _ _)|quiet_step (with_reducible exact cc0 _ _)))
   refine qz λwq hBq=> ?_;have HA3:=hid ((hBq.block w.heap.size (lt_of_block HAr.out)).trans HAr.out);have HB3:=hid (HBr.out.trans (hBq.mono HBr.out.size));have hwk:IntKind.i64.wrap ((j:Int)+1)=(j:Int)+1:=IntWalk.i64_in _ (by omega);clear hBq cc0 x0 x1 x2 x17 hl1 hl2;go_wp2;go_roundw
   case rel=>exact⟨j+1,by go_num,by omega,hid (by rw[HJ.out]),HB3,HA3⟩
   case measure=>simp[RowKit.intOf];omega
  ·obtain rfl:j=n:=by omega
   have hl1:¬(j:Int)<(j:Int):=by omega
   obtain rfl:ev=K2++bz ((elems.take j).flatMap idZ):=by rw[HEY.out,HN.out,List.take_length]
   go_wp2;go_ret;exact⟨rfl,HBr.out⟩
theorem rspell_any (o:Gop) (x:OpX) (S:Nat->Prop) (w:World) (hk:okO o) (hs:Sho o) (htx:o.text.size<=1000000) (hI:OpIn w S o x):
  Calls Tryz.prog 201 #[.agg (opA o x)] w λe w'=>e= .returned (.string (bz (opZ o)))∧Below w.heap.size w w':=by
 obtain⟨kind,⟨⟨nt,nr⟩,ni⟩,⟨⟨pt,pr⟩,pi⟩,name,dir,dots,⟨⟨at_,ar⟩,ai⟩,⟨⟨et,er⟩,ei⟩,text,elems⟩:=o;obtain⟨dA,dc,eA,ec⟩:=x;have h0:=hk.1;have h4:=hk.2.1;simp only at h0 h4 htx;by_cases k0:kind=0
 ·subst k0;exact rspell_0 nt nr ni pt pr pi name dir dots at_ ar ai et er ei text elems dA dc eA ec S w hk hs htx hI.dots hI.elems
 by_cases k1:kind=1
 ·subst k1;exact rspell_1 nt nr ni pt pr pi name dir dots at_ ar ai et er ei text elems dA dc eA ec S w hk hs htx hI.dots hI.elems
 by_cases k2:kind=2
 ·subst k2;exact rspell_2 nt nr ni pt pr pi name dir dots at_ ar ai et er ei text elems dA dc eA ec S w hk hs htx hI.dots hI.elems
 by_cases k3:kind=3
 ·subst k3;exact rspell_3 nt nr ni pt pr pi name dir dots at_ ar ai et er ei text elems dA dc eA ec S w hk hs htx hI.dots hI.elems
 obtain rfl:kind=4:=by omega
 exact rspell_4 nt nr ni pt pr pi name dir dots at_ ar ai et er ei text elems dA dc eA ec S w hk hs htx hI.dots hI.elems
theorem rSpell_any (t r n:Int) (v:List Int) (ut ur:Int) (ops:List Gop) (dA:Option Addr) (dc:Nat) (oA:Option Addr) (oc:Nat) (S:Nat->Prop) (w:World) (hI:GrIn w S (⟨⟨t,r⟩,n,v,⟨ut,ur⟩,ops⟩:Grp) dA dc oA oc) (hk:okG (⟨⟨t,r⟩,n,v,⟨ut,ur⟩,ops⟩:Grp)) (hs:∀o∈ops,Sho o) (h200:ops.length<=200) (h16:v.length<=16) (hTx:∀o∈ops,o.text.size<=1000000):
  Calls Tryz.prog 176 #[.agg #[t,r,n,.slice dA v.length dc,ut,ur,.slice oA ops.length oc]] w λe w'=>e= .returned (.string (bz (grpZ (⟨⟨t,r⟩,n,v,⟨ut,ur⟩,ops⟩:Grp))))∧Below w.heap.size w w':=by
 obtain⟨ev,hev⟩:∃q,q=bz (grpZ (⟨⟨t,r⟩,n,v,⟨ut,ur⟩,ops⟩:Grp)):=⟨_,rfl⟩;rw[<-hev];have HEV:=hid hev;clear hev;obtain⟨k1,k2,k3,k4,k5⟩:=hk;simp only at k1 k2 k3 k4 k5;have hV:natsS (λi=>v.getD i 0) v.length=bz (numsZ v):=by rw[<-bz_list (natsS _ _),natsS_Z v (λx hx=>(k3.2 x hx).1)]
 have HNS:=hid (show ∀(W:World),VecR W dA v->Calls Tryz.prog 199 #[.slice dA v.length dc] W λe w'=>e= .returned (.tuple #[.string (bz (numsZ v)),(0:Int)])∧Below W.heap.size W w' from λW h=>by
  rw[<-hV]
  exact refnats_ok dA v.length dc (λi=>v.getD i 0) (by omega) (λi hi'=>by
   have hm:v.getD i 0∈v:=by rw[List.getD_eq_getElem?_getD,List.getElem?_eq_getElem hi'];exact List.getElem_mem hi'
   exact k3.2 _ hm) W h)
 have HVE:=hid hI.deps.vec;have HOP:=hid hI.ops;have HOK:=hid k5.2;have HSH:=hid hs;have HTX:=hid hTx;have zv:(bz (numsZ v)).size<=1000:=by
  rw[bz_size];have h2:=flat_le (z:=natZ) (l:=v) λx hx=>natZ_le (k3.2 x hx).2;have h3:(natZ (v.length:Int)).length<=10:=natZ_le (by omega);unfold numsZ;rw[List.length_append];omega
 have HT:=hid (rnat8 t k1.1.1 k1.1.2);have zT:(bz (natZ t)).size<=10:=by rw[bz_size];exact natZ_le k1.1.2
 have HR:=hid (rnat8 r k1.2.1 k1.2.2);have zR:(bz (natZ r)).size<=10:=by rw[bz_size];exact natZ_le k1.2.2
 have HN0:=hid (rnat8 n k2.1 k2.2);have zN0:(bz (natZ n)).size<=10:=by rw[bz_size];exact natZ_le k2.2
 have HU1:=hid (rnat8 ut k4.1.1 k4.1.2);have zU1:(bz (natZ ut)).size<=10:=by rw[bz_size];exact natZ_le k4.1.2
 have HU2:=hid (rnat8 ur k4.2.1 k4.2.2);have zU2:(bz (natZ ur)).size<=10:=by rw[bz_size];exact natZ_le k4.2.2
 have HL0:=hid (rnat8 (ops.length:Int) (by omega) (by omega));have zL0:(bz (natZ (ops.length:Int))).size<=10:=by rw[bz_size];exact natZ_le (by omega)
 have HZ:=hid (show bz (grpZ (⟨⟨t,r⟩,n,v,⟨ut,ur⟩,ops⟩:Grp))=bz (natZ t)++bz (natZ r)++bz (natZ n)++bz (numsZ v)++bz (natZ ut)++bz (natZ ur)++bz (natZ (ops.length:Int))++bz (ops.flatMap opZ) by simp only[bz_app];rfl);have HEZ:=hid (HEV.out.trans HZ.out);clear hV hs hTx hI HZ HEV k1 k2 k3 k4 k5;generalize bz (natZ t)=T at *;generalize bz (natZ r)=R at *;generalize bz (natZ n)=N0 at *;generalize bz (numsZ v)=V0 at *;generalize bz (natZ ut)=U1 at *;generalize bz (natZ ur)=U2 at *;generalize bz (natZ (ops.length:Int))=L0 at *;have sR:¬maxLen<T.size+R.size:=by unfold maxLen;omega
 have sN0:¬maxLen<T.size+R.size+N0.size:=by unfold maxLen;omega
 have sV0:¬maxLen<T.size+R.size+N0.size+V0.size:=by unfold maxLen;omega
 have sU1:¬maxLen<T.size+R.size+N0.size+V0.size+U1.size:=by unfold maxLen;omega
 have sU2:¬maxLen<T.size+R.size+N0.size+V0.size+U1.size+U2.size:=by unfold maxLen;omega
 have sL0:¬maxLen<T.size+R.size+N0.size+V0.size+U1.size+U2.size+L0.size:=by unfold maxLen;omega
 go_enter Tryz.func176,Tryz.ntmps176;go_upto_region 1 with fail;generalize hW:w.alloc (.cells #[t,r,n,.slice dA v.length dc,ut,ur,.slice oA ops.length oc] 45)=W;have hA:W.heap[w.heap.size]? =some (.cells #[t,r,n,.slice dA v.length dc,ut,ur,.slice oA ops.length oc] 45 (0,0)):=by rw[<-hW];exact heap_alloc_new _ _
 have HBW:=hid (show Below w.heap.size w W by rw[<-hW];exact(Below.refl _ _).alloc (Nat.le_refl _) _);clear hW;have HA:=hid hA;have r3:=cw3 hA;clear hA;go_upto_region 2 with(go_at_call 199;refine(HNS.out _ (HVE.out.below HBW.out)).mono ?_;rintro e w1 ⟨rfl,hB1⟩);have HA1:=hid ((hB1.block w.heap.size (lt_of_block HA.out)).trans HA.out);have HB1:=hid (HBW.out.trans (hB1.mono HBW.out.size));clear hB1 r3 HA HBW;have x0:=rg0 HA1.out;have x1:=rg1 HA1.out;have x2:=rg2 HA1.out;have x4:=rg4 HA1.out;have x5:=rg5 HA1.out;have x6:=rg6 HA1.out;have cT:=λd os=>Calls.regrown_of (HT.out (grow (redrawn w1 d) os));have cR:=λd os=>Calls.regrown_of (HR.out (grow (redrawn w1 d) os));have cN0:=λd os=>Calls.regrown_of (HN0.out (grow (redrawn w1 d) os));have cU1:=λd os=>Calls.regrown_of (HU1.out (grow (redrawn w1 d) os));have cU2:=λd os=>Calls.regrown_of (HU2.out (grow (redrawn w1 d) os));have cL0:=λd os=>Calls.regrown_of (HL0.out (grow (redrawn w1 d) os));refine rqb ?_
 repeat(any_goals(first|go_big_quiet_step (with_reducible first|exact cT _ _|exact cR _ _|exact cN0 _ _|exact cU1 _ _|exact cU2 _ _|exact cL0 _ _)|quiet_step (with_reducible first|exact cT _ _|exact cR _ _|exact cN0 _ _|exact cU1 _ _|exact cU2 _ _|exact cL0 _ _)))
 refine qz λwq hBq=> ?_;have HA2:=hid ((hBq.block w.heap.size (lt_of_block HA1.out)).trans HA1.out);have HB2:=hid (HB1.out.trans (hBq.mono HB1.out.size));obtain⟨K,hK⟩:∃b,b=T++R++N0++V0++U1++U2++L0:=⟨_,rfl⟩;have hks:K.size<=2000:=by rw[hK];simp only[ByteArray.size_append];omega
 rw[<-hK];have HEY:=hid (show ev=K++bz (ops.flatMap opZ) by rw[HEZ.out,hK]);clear HEZ;clear hK hBq x0 x1 x2 x4 x5 x6 cT cR cN0 cU1 cU2 cL0 sR sN0 sV0 sU1 sU2 sL0 zT zR zN0 zU1 zU2 zL0 zv;have H2:=hid h200;clear h200 h16;go_upto_region 4 with fail;go_loopw [5,6] (λs i wr=>∃k:Nat,i= .int .i64 k∧k<=ops.length∧Hid (s= .string (K++bz ((ops.take k).flatMap opZ)))∧Hid (Below w.heap.size w wr)∧Hid (wr.heap[w.heap.size]? =some (.cells #[t,r,n,.slice dA v.length dc,ut,ur,.slice oA ops.length oc] 45 (0,0)))) (λ_ i _=>ops.length-(RowKit.intOf i).toNat)
 case atStart=>exact⟨0,rfl,Nat.zero_le _,hid (by rw[List.take_zero,List.flatMap_nil,app_nil]),HB2,HA2⟩
 case round=>
  obtain⟨j,rfl,hj,HVV,HBr,HAr⟩:=hrel;obtain rfl:=HVV.out;have r6:=cw6 HAr.out;by_cases hjl:j<ops.length
  ·have hl1:(j:Int)<(ops.length:Int):=by omega
   have hl2:decide ((j:Int)<(ops.length:Int))=true:=decide_eq_true hl1;go_upto_region 6 with fail;obtain⟨X,hX1,hX2⟩:=OpsS.agr HOP.out (Agr.below HBr.out);obtain⟨ob,oo,hoA,hS,hob,hc⟩:=hX1 j hjl;obtain rfl:oA=some ⟨ob,oo,none⟩:=hoA;have hIn:=hX2 j hjl;obtain⟨o,ho⟩:∃o,o=ops.getD j (opO 0 .zero):=⟨_,rfl⟩;obtain⟨x,hx⟩:∃x,x=X j:=⟨_,rfl⟩;have hmem:ops.getD j (opO 0 .zero)∈ops:=by rw[List.getD_eq_getElem?_getD,List.getElem?_eq_getElem hjl];exact List.getElem_mem _
   try simp only at hIn hc
   rw[<-ho] at hIn hmem;simp only[<-ho,<-hx] at hIn hc;have hOp:=λd os=>Calls.regrown_of (rspell_any o x S (grow (redrawn wr d) os) (HOK.out _ hmem) (HSH.out _ hmem) (HTX.out _ hmem) (hIn.agr (Agr.below (below_regrown wr d os))));have HTK:=hid (show(ops.take (j+1)).flatMap opZ=(ops.take j).flatMap opZ++opZ o by rw[ho];exact take_flat _ hjl);have hzx:(bz (opZ o)).size<=1061000:=by rw[bz_size];exact opZ_le (HOK.out _ hmem) (HSH.out _ hmem) (HTX.out _ hmem)
   have hsz2:(bz ((ops.take j).flatMap opZ)).size<=1061000*200:=by
    rw[bz_size];have h1:=flat_le (z:=opZ) (l:=ops.take j) (c:=1061000) λy hy=>opZ_le (HOK.out y (List.mem_of_mem_take hy)) (HSH.out y (List.mem_of_mem_take hy)) (HTX.out y (List.mem_of_mem_take hy));have h2:(ops.take j).length<=200:=by rw[List.length_take];have:=H2.out;omega
    omega
   have HJ:=hid (show K++bz ((ops.take (j+1)).flatMap opZ)=K++bz ((ops.take j).flatMap opZ)++bz (opZ o) by rw[HTK.out,<-bz_app];simp only[ByteArray.append_assoc]);have HRR:=hid (range_regrown (op_range hc));obtain⟨opl,hol⟩:∃l,l=opL o x:=⟨_,rfl⟩;rw[<-hol] at HRR;have HNL:=hid (show(Tryz.prog.info? 125).map (·.size)=some opl.length by rw[hol];kernel_rfl);have HOL:=hid (show(.agg opl.toArray:Value)= .agg (opA o x) by rw[hol];rfl);clear hol hc hIn hX1 hX2 ho hx hmem HTK;obtain⟨M,hM⟩:∃b,b=K++bz ((ops.take j).flatMap opZ):=⟨_,rfl⟩;have hMs:M.size<=2000+1061000*200:=by rw[hM,ByteArray.size_append];omega
   rw[<-hM] at HJ ⊢;clear hM hsz2 HVV;generalize bz (opZ o)=X0 at *;have s1:¬maxLen<M.size+X0.size:=by unfold maxLen;omega
   have x6:=cell_regrown r6;clear r6;refine wp_plain_quiet_below ?_
   repeat(any_goals(first|(refine quiet_load_mid rfl _ _ rfl ob (oo+j*18) rfl opl _ HRR.out Tryz.underlying125 rfl HNL.out ?_;rw[HOL.out])|go_big_quiet_step (with_reducible exact hOp _ _)|quiet_step (with_reducible exact hOp _ _)))
   refine wpQuiet_nil ?_;intro _ hw';obtain⟨⟨dq,osq⟩,hw''⟩:=hw';subst hw'';have hBq:=below_regrown wr dq osq;generalize grow (redrawn wr dq) osq=wq2 at *;have HA3:=hid ((hBq.block w.heap.size (lt_of_block HAr.out)).trans HAr.out);have HB3:=hid (HBr.out.trans (hBq.mono HBr.out.size));have hwk:IntKind.i64.wrap ((j:Int)+1)=(j:Int)+1:=IntWalk.i64_in _ (by have:=H2.out;omega);clear hBq hOp x6 hl1 hl2;go_wp2;go_roundw
   case rel=>exact⟨j+1,by go_num,by omega,hid (by rw[HJ.out]),HB3,HA3⟩
   case measure=>simp[RowKit.intOf];omega
  ·obtain rfl:j=ops.length:=by omega
   obtain rfl:ev=K++bz ((ops.take ops.length).flatMap opZ):=by rw[HEY.out,List.take_length]
   go_wp2;go_ret;exact⟨rfl,HBr.out⟩
end
end Go.Proofs.YtkhmicndehlneaaGreatDoor
