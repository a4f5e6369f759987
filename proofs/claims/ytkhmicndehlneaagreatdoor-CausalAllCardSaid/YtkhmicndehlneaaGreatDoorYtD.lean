/- Part 30 of the walks and plain laws that this claim uses, joined. Conditions: as each theorem states. -/
import Derived.Test.YtkhmicndehlneaaGreatDoorYtC
namespace Go.Proofs.YtkhmicndehlneaaGreatDoor
set_option maxRecDepth 100000
set_option maxHeartbeats 16000000
section
open Go.RowKit Go.Lib Go.Sort
set_option linter.unusedVariables false
attribute [local go_sem ↓] Go.wp_at_zero Go.wp_at_succ
structure KnX where
 A:Option Addr
 c:Nat
 v:List Int
def kn0:KnX:=⟨none,0,[]⟩
def knC (p:KnX):List Value:=[.slice p.A p.v.length p.c]
theorem info_vec:(Tryz.prog.info? 27).map (fun i=>(i.zero,i.size,i.bytes))=some (some (.slice none 0 0),1,24):=by kernel_rfl
structure WIn (S:Nat→Prop) (n:Nat) (L:List (Grp×GrX)) (K:List KnX) (V:List Int) (gA:Option Addr) (gc:Nat) (kA:Option Addr) (kc:Nat) (w:World):Prop where
 ok:HOk n L (K.map (·.v)) V
 gr:w.ownsRow 0 45 7 (.slice gA L.length gc) L.length (L.flatMap grC_)
 gs:∀g,(Value.slice gA L.length gc).ownBlock=some g→S g
 gd:∀p∈L,GrG w S p
 kr:w.ownsRow 0 27 1 (.slice kA 3 kc) 3 (K.flatMap knC)
 ks:∀g,(Value.slice kA 3 kc).ownBlock=some g→S g
 kd:∀p∈K,VecS w S p.A p.v∧p.v.length≤p.c∧p.c≤maxLen
def DoneQ (S:Nat→Prop) (n:Nat) (w00:World) (e:Ending) (w':World):Prop:=∃L K V gA gc kA kc,e= .returned (.agg #[.slice gA (List.length L) gc,.slice kA 3 kc])∧WIn S n L K V gA gc kA kc w'∧Below w00.heap.size w00 w'
theorem WIn.below {S:Nat→Prop} {n:Nat} {L:List (Grp×GrX)} {K:List KnX} {V:List Int} {gA kA:Option Addr} {gc kc:Nat} {w w':World} (h:WIn S n L K V gA gc kA kc w) (hB:Below w.heap.size w w'):WIn S n L K V gA gc kA kc w':=
 ⟨h.ok,h.gr.kept (gby_below (r:=none) hB) (Classical.em _),h.gs,fun p hp=>(h.gd p hp).agr (Agr.below hB),h.kr.kept (gby_below (r:=none) hB) (Classical.em _),h.ks,fun p hp=>⟨RowG.agr (h.kd p hp).1 (Agr.below hB),(h.kd p hp).2⟩⟩
theorem HOk.mono {n:Nat} {gs:List (Grp×GrX)} {kn:List (List Int)} {V:List Int} (h:HOk n gs kn V):HOk (n+1) gs kn V:=
 ⟨h.chk,h.nd,h.ah,by have:=h.len;omega,h.one,h.sml,fun p hp=>by have:=h.r3 p hp;exact⟨this.1,this.2.1,by have:=this.2.2.1;omega,by have:=this.2.2.2;omega⟩,fun r=>by have:=h.vn r;omega,h.kl,h.kv,h.ko⟩
theorem gby_none {w w':World} (h:Below w.heap.size w w'):w.grownBy w' none:=gby_below h
theorem there_sub {w:World} {g off n:Nat} {T:TypeId} {c:Array Value} (h:w.heap[g]? =some (.cells c T (0,0))) (hs:off+n≤c.size):w.there g off n:=fun j hj=>by
 rw[crw h]
 exact⟨by rw[Array.getElem?_eq_getElem (by omega)];rfl,frozen_of_row _ _ _ _ _ h⟩
theorem ops_one {w:World} {S:Nat→Prop} {ob:Nat} {o:Gop} {x:OpX} {T:TypeId} (h:w.heap[ob]? =some (.cells (opA o x) T (0,0))) (hI:OpIn w S o x) (hS:S ob):OpsS w S (some ⟨ob,0,none⟩) [o]:=by
 refine⟨fun _=>x,fun k hk=> ?_,fun k hk=> ?_⟩
 ·have hk:k<1:=hk
  obtain rfl:k=0:=by omega
  refine⟨ob,0,rfl,hS,lt_of_block h,fun j hj=> ?_⟩
  rw[Nat.zero_mul,Nat.add_zero,Nat.zero_add,cell_of_row _ _ _ _ _ _ h]
  show(opA o x)[j]? =some ((opA o x).getD j undef)
  have hs:(opA o x).size=18:=rfl
  rw[Array.getElem?_eq_getElem (by omega)]
  simp[Array.getD,hs,hj]
 ·have hk:k<1:=hk
  obtain rfl:k=0:=by omega
  exact hI
theorem knlen {n:Nat} {L:List (Grp×GrX)} {K:List KnX} {V:List Int} (h:HOk n L (K.map (·.v)) V):K.length=3:=by have:=h.kl;simpa using this
theorem kngetD (K:List KnX) (i:Nat):(K.map (·.v)).getD i []=(K.getD i kn0).v:=by
 rw[List.getD_eq_getElem?_getD,List.getElem?_map,List.getD_eq_getElem?_getD]
 cases K[i]? <;>rfl
theorem done_any (n:Nat) (L:List (Grp×GrX)) (K:List KnX) (V:List Int) (gA:Option Addr) (gc:Nat) (kA:Option Addr) (kc:Nat) (q0 q1 q2 q3 q4:Nat) (see:Bool) (S:Nat→Prop) (w00:World) (hS:∀b,w00.heap.size≤b→S b) (hn:n<16) (h0:q0≤255) (h1:q1≤255) (h2:q2≤255) (h3:q3≤255) (h4:q4≤255) (hW:WIn S n L K V gA gc kA kc w00):
  Calls Tryz.prog 47 #[.agg #[.slice gA L.length gc,.slice kA 3 kc],.agg #[.int .u8 (q0:Int),.int .u8 (q1:Int),.int .u8 (q2:Int),.int .u8 (q3:Int),.int .u8 (q4:Int),.bool see]] w00 fun e w'=>DoneQ S (n+1) w00 e w':=by
 obtain⟨iV,hV,hy0,hy1,hy2⟩:=info_parts info_vec
 obtain⟨iG,hG,hz0,hz1,hz2⟩:=info_parts infogrC_
 have hk3:=knlen hW.ok
 have hl16:=hW.ok.len
 have HW:=hid hW
 clear hW
 go_enter Tryz.func47,Tryz.ntmps47
 go_upto_region 1 with fail
 have sz:=fun (W:World) (o:Obj)=>show(W.alloc o).heap.size=W.heap.size+1 by simp
 have hB3:Below w00.heap.size w00 (((w00.alloc (.cells #[.slice gA L.length gc,.slice kA 3 kc] 83)).alloc (.cells #[.int .u8 (q0:Int),.int .u8 (q1:Int),.int .u8 (q2:Int),.int .u8 (q3:Int),.int .u8 (q4:Int),.bool see] 86)).alloc (.cells #[.slice none 0 0,.slice none 0 0] 83)):=(((Below.refl _ _).alloc (Nat.le_refl _) _).alloc (by rw[sz];omega) _).alloc (by rw[sz,sz];omega) _
 have HBX:=hid (show(((w00.alloc (.cells #[.slice gA L.length gc,.slice kA 3 kc] 83)).alloc (.cells #[.int .u8 (q0:Int),.int .u8 (q1:Int),.int .u8 (q2:Int),.int .u8 (q3:Int),.int .u8 (q4:Int),.bool see] 86)).alloc (.cells #[.slice none 0 0,.slice none 0 0] 83)).heap[w00.heap.size]? =some (.cells #[.slice gA L.length gc,.slice kA 3 kc] 83 (0,0)) from(Below.heap_alloc _ _ _ (by rw[sz,sz];omega)).trans ((Below.heap_alloc _ _ _ (by rw[sz];omega)).trans (heap_alloc_new _ _)))
 have HDO:=hid (show(((w00.alloc (.cells #[.slice gA L.length gc,.slice kA 3 kc] 83)).alloc (.cells #[.int .u8 (q0:Int),.int .u8 (q1:Int),.int .u8 (q2:Int),.int .u8 (q3:Int),.int .u8 (q4:Int),.bool see] 86)).alloc (.cells #[.slice none 0 0,.slice none 0 0] 83)).heap[(w00.heap.size+1)]? =some (.cells #[.int .u8 (q0:Int),.int .u8 (q1:Int),.int .u8 (q2:Int),.int .u8 (q3:Int),.int .u8 (q4:Int),.bool see] 86 (0,0)) from(Below.heap_alloc _ _ _ (by rw[sz,sz];omega)).trans (heap_alloc_newC _ _ (by rw[sz])))
 have HRZ:=hid (show(((w00.alloc (.cells #[.slice gA L.length gc,.slice kA 3 kc] 83)).alloc (.cells #[.int .u8 (q0:Int),.int .u8 (q1:Int),.int .u8 (q2:Int),.int .u8 (q3:Int),.int .u8 (q4:Int),.bool see] 86)).alloc (.cells #[.slice none 0 0,.slice none 0 0] 83)).heap[(w00.heap.size+1+1)]? =some (.cells #[.slice none 0 0,.slice none 0 0] 83 (0,0)) from heap_alloc_newC _ _ (by rw[sz,sz]))
 have HB:=hid hB3
 have HW3:=hid (HW.out.below hB3)
 generalize hw:(((w00.alloc (.cells #[.slice gA L.length gc,.slice kA 3 kc] 83)).alloc (.cells #[.int .u8 (q0:Int),.int .u8 (q1:Int),.int .u8 (q2:Int),.int .u8 (q3:Int),.int .u8 (q4:Int),.bool see] 86)).alloc (.cells #[.slice none 0 0,.slice none 0 0] 83))=w at *
 have HW0:=hid HW.out
 clear hw hB3 HW sz
 have d1:w.cell? ⟨w00.heap.size+1,1,none⟩=some (.int .u8 (q1:Int)):=cell_of_row _ _ _ _ _ _ HDO.out
 obtain⟨i,hi⟩:∃i,i=q1 % 3:=⟨_,rfl⟩
 have hi3:i<3:=by omega
 have hit:(q1:Int).tmod 3=(i:Int):=by rw[Int.tmod_eq_emod_of_nonneg (by omega),hi];rfl
 clear hi
 go_upto_region 2 with fail
 clear d1
 rw[show(1+(i:Int))=(i:Int)+1 by omega]
 obtain⟨kb,ekA,-,hkl,hkr⟩:=ownN_range (f:=knC) (fun _=>rfl) hk3.symm HW3.out.kr hi3 kn0
 cases ekA
 have HKV:=hid (show VecS w (fun b=>b≠w00.heap.size+1+1∧S b) (K.getD i kn0).A (K.getD i kn0).v∧(K.getD i kn0).v.length≤(K.getD i kn0).c∧(K.getD i kn0).c≤maxLen from by
  have h9:=HW0.out.kd _ (getD_memF (show i<K.length by omega) kn0)
  exact⟨RowG.agr (RowG.sub (T:=fun b=>b≠w00.heap.size+1+1∧S b) h9.1 (fun b hb hs=>⟨by omega,hs⟩)) (Agr.grown (row:=none) (gby_none HB.out) (fun g e=>by cases e)),h9.2⟩)
 have HVO:=hid (show Vok V (K.getD i kn0).v∧atV (K.getD i kn0).v ((i:Int)+1)=atV V ((i:Int)+1) by rw[←kngetD];exact⟨HW3.out.ok.kv i hi3,HW3.out.ok.ko i hi3⟩)
 generalize K.getD i kn0=p0 at *
 obtain⟨vA0,vc0,v0⟩:=p0
 have x1:w.cell? ⟨w00.heap.size,1,none⟩=some (.slice (some ⟨kb,0,none⟩) 3 kc):=cell_of_row _ _ _ _ _ _ HBX.out
 have x2:w.cell? ⟨kb,i,none⟩=some (.slice vA0 v0.length vc0):=by have h9:=hkr 0 _ rfl;rwa[Nat.mul_one,Nat.add_zero] at h9
 have x3:(0:Int)≤(i:Int):=by omega
 have x4:(i:Int)<3:=by omega
 have d5:w.cell? ⟨w00.heap.size+1,5,none⟩=some (.bool see):=cell_of_row _ _ _ _ _ _ HDO.out
 clear hkr
 go_upto_if 29 with fail
 clear x1 x2 d5
 go_cut [6] (fun s wx=>∃(vA:Option Addr) (vc:Nat) (v:List Int),s= .slice vA v.length vc∧Hid (Vok V v∧atV v ((i:Int)+1)=atV V ((i:Int)+1))∧Hid (VecS wx (fun b=>b≠w00.heap.size+1+1∧S b) vA v∧v.length≤vc∧vc≤maxLen)∧Hid (Below w.heap.size w wx))
 case first=>
  cases see with
  |false=>
   go_wp2
   go_meet
   exact⟨vA0,vc0,v0,rfl,HVO,HKV,hid (Below.refl _ _)⟩
  | true=>
   go_upto_region 5 with fail
   go_loopg [6,7] 3 (fun g0 s ix wr=>∃(j:Nat) (vA:Option Addr) (vc:Nat) (v:List Int),j+g0=3∧ix= .int .i64 j∧s= .slice vA v.length vc∧Hid (Vok V v∧atV v ((i:Int)+1)=atV V ((i:Int)+1))∧Hid (VecS wr (fun b=>b≠w00.heap.size+1+1∧S b) vA v∧v.length≤vc∧vc≤maxLen)∧Hid (Below w.heap.size w wr))
   case atStart=>exact⟨0,vA0,vc0,v0,rfl,rfl,rfl,HVO,HKV,hid (Below.refl _ _)⟩
   case round=>
    obtain⟨j,vA,vc,v,hj,rfl,rfl,HVj,HSj,HBj⟩:=hrel
    have HX:=hid ((HBj.out.block _ (lt_of_block HBX.out)).trans HBX.out)
    have y1:wr.cell? ⟨w00.heap.size,1,none⟩=some (.slice (some ⟨kb,0,none⟩) 3 kc):=cell_of_row _ _ _ _ _ _ HX.out
    by_cases hj3:j<3
    ·have j1:(0:Int)≤(j:Int):=by omega
     have j2:(j:Int)<3:=by omega
     obtain⟨kb2,e2,-,hkl2,hkr2⟩:=ownN_range (f:=knC) (fun _=>rfl) hk3.symm (HW3.out.below HBj.out).kr hj3 kn0
     cases e2
     have HKJ:=hid ((HW3.out.below HBj.out).kd _ (getD_memF (show j<K.length by omega) kn0))
     have HVJ:=hid (show Vok V (K.getD j kn0).v by rw[←kngetD];exact HW3.out.ok.kv j hj3)
     generalize K.getD j kn0=p9 at *
     obtain⟨uA,uc,u⟩:=p9
     have y2:wr.cell? ⟨kb,j,none⟩=some (.slice uA u.length uc):=by have h9:=hkr2 0 _ rfl;rwa[Nat.mul_one,Nat.add_zero] at h9
     have HMG:=hid (refmerge_any vA uA vc uc v u wr (by have:=HVj.out.1.len;omega) (by have h9:Vok V u:=HVJ.out;have:=h9.len;omega) HSj.out.1.vec (VecS.vec HKJ.out.1))
     clear hkr2
     go_wp2_with (go_at_call 87;refine HMG.out.mono ?_;rintro e w2 ⟨mA,mc,rfl,hv2,hlc,hcm,hB2⟩;have HV2:=hid hv2;have HB2:=hid hB2;clear hv2 hB2)
     go_roundg (3-(j+1))
     case measure=>omega
     case rel=>exact⟨j+1,mA,mc,mergeV v u,by omega,by go_num,rfl,hid ⟨HVj.out.1.merge HVJ.out,HVj.out.1.merge_at HVJ.out HVj.out.2⟩,hid ⟨RowG.sub HV2.out (fun b _ (hb:wr.heap.size≤b)=>by have:=HBj.out.size;have:=lt_of_block HRZ.out;exact⟨by omega,hS b (by omega)⟩),hlc,hcm⟩,hid (HBj.out.trans (HB2.out.mono HBj.out.size))⟩
    ·have j2:¬(j:Int)<3:=by omega
     go_wp2
     go_meet
     exact⟨vA,vc,v,rfl,HVj,HSj,HBj⟩
 case rest=>
  obtain⟨vA,vc,v,rfl,HVV,HSV,HBC⟩:=hcut
  generalize wc=w1 at *
  have HX:=hid ((HBC.out.block _ (lt_of_block HBX.out)).trans HBX.out)
  have HD:=hid ((HBC.out.block _ (lt_of_block HDO.out)).trans HDO.out)
  have HZ:=hid ((HBC.out.block _ (lt_of_block HRZ.out)).trans HRZ.out)
  have HW1:=hid (HW3.out.below HBC.out)
  have hw0:=HB.out.size
  have HB1:=hid (HB.out.trans (HBC.out.mono HB.out.size))
  clear HKV HVO HBX HDO HRZ HW3 HBC HB
  have hvl:v.length≤3:=HVV.out.1.len
  obtain⟨KL,hKL⟩:∃X,X=knownL v L:=⟨_,rfl⟩
  have hkll:KL.length≤L.length:=by rw[hKL];exact knownL_len v L
  have HKN:=hid (show Calls Tryz.prog 88 #[.slice gA L.length gc,.slice vA v.length vc] w1 fun e w'=>∃A' c',e= .returned (.slice A' KL.length c')∧w'.ownsRow w1.heap.size 45 7 (.slice A' KL.length c') KL.length (KL.flatMap grC_)∧Below w1.heap.size w1 w' by rw[hKL];exact known_any L gA gc vA vc v w1 (by omega) (by omega) (RowGr.own HW1.out.gr) HSV.out.1.vec)
  have HG1:=hid (show ∀p∈KL,GrG w1 S p from fun p hp=>HW1.out.gd p (by rw[hKL] at hp;exact knownL_mem hp))
  have HKK:=hid (show KnG KL ⟨latT KL+1,(i:Int)+1⟩ by rw[hKL];exact HW1.out.ok.known hn hi3)
  have HKE:=hid hKL
  clear hKL
  have z1:w1.cell? ⟨w00.heap.size,0,none⟩=some (.slice gA L.length gc):=cell_of_row _ _ _ _ _ _ HX.out
  go_upto_region 9 with(go_at_call 88;refine HKN.out.mono ?_;rintro e w2 ⟨lA,lc,rfl,hown2,hB2⟩;have HO2:=hid hown2;have HB2:=hid hB2;clear hown2 hB2)
  clear z1
  have HAT:=hid (refat_any vA vc v ((i:Int)+1) w2 (by omega) (VecS.vec (RowG.agr HSV.out.1 (Agr.below HB2.out))))
  obtain⟨av,hav⟩:∃x,x=atV v ((i:Int)+1):=⟨_,rfl⟩
  rw[←hav] at HAT
  have hav2:0≤av∧av≤16:=by have h9:=HVV.out.1.le ((i:Int)+1);have h8:=HW1.out.ok.vn ((i:Int)+1);rw[hav];omega
  have HAV:=hid hav
  clear hav
  have HLT:=hid (fun W (hB:Below w2.heap.size w2 W)=>latest_any KL lA lc W (by omega) ((RowGr.own HO2.out).below hB))
  obtain⟨tt,htt⟩:∃x,x=latT KL:=⟨_,rfl⟩
  rw[←htt] at HLT HKK
  have htt2:0≤tt∧tt≤16:=by
   have h9:=(latT_ge KL).1
   have h8:=latT_le (L:=KL) (m:=(n:Int)) (by omega) fun p hp=>(HW1.out.ok.r3 p (by rw[HKE.out] at hp;exact knownL_mem hp)).2.2.1
   rw[htt];omega
  have HTT:=hid htt
  clear htt
  go_upto_region 11 with(first
   |(go_at_call 89;refine(HLT.out _ (by first|exact HB3.out|exact Below.refl _ _)).mono ?_;rintro e w3 ⟨rfl,hB3⟩;have HB3:=hid hB3;clear hB3)
   |(go_at_call 55;refine HAT.out.mono ?_;rintro e w3 ⟨rfl,rfl⟩))
  obtain⟨w4,hw4⟩:∃W,W=w3.alloc (.cells #[.int .i64 (tt+1),.int .i64 ((i:Int)+1),.int .i64 (av+1),.slice vA v.length vc,.int .i64 0,.int .i64 0,.slice none 0 0] 45):=⟨_,rfl⟩
  rw[←hw4]
  have HB13:=hid (HB2.out.trans (HB3.out.mono HB2.out.size))
  have HGB:=hid (show w4.heap[w3.heap.size]? =some (.cells #[.int .i64 (tt+1),.int .i64 ((i:Int)+1),.int .i64 (av+1),.slice vA v.length vc,.int .i64 0,.int .i64 0,.slice none 0 0] 45 (0,0)) by rw[hw4];exact heap_alloc_new _ _)
  have hB4:Below w3.heap.size w3 w4:=by rw[hw4];exact(Below.refl _ _).alloc (Nat.le_refl _) _
  have HB4:=hid hB4
  have hs4:w4.heap.size=w3.heap.size+1:=by rw[hw4];simp
  have h13:=HB13.out.size
  have hz:=lt_of_block HZ.out
  have HX3:=hid ((HB13.out.block _ (lt_of_block HX.out)).trans HX.out)
  have HD3:=hid ((HB13.out.block _ (lt_of_block HD.out)).trans HD.out)
  have HZ3:=hid ((HB13.out.block _ (lt_of_block HZ.out)).trans HZ.out)
  have HS3:=hid (And.intro (RowG.agr HSV.out.1 (Agr.below HB13.out)) HSV.out.2)
  have HO3:=hid (HO2.out.kept (gby_below (r:=none) HB3.out) (Classical.em _))
  have HG3:=hid (fun p hp=>(HG1.out p hp).agr (Agr.below HB13.out))
  have HBA:=hid (HB1.out.trans (HB13.out.mono HB1.out.size))
  clear hw4 HX HD HZ HSV HO2 HG1 HB13 HB3 HB2 HLT HAT HKN
  have d0:w4.cell? ⟨w00.heap.size+1,0,none⟩=some (.int .u8 (q0:Int)):=cell_of_row _ _ _ _ _ _ ((hB4.block _ (lt_of_block HD3.out)).trans HD3.out)
  obtain⟨b7,hb7⟩:∃b,b=((q0:Int) % 8 == 7):=⟨_,rfl⟩
  have q7:((q0:Int) % 8 == 7)=b7:=hb7.symm
  clear hb7
  go_upto_if 63 with fail
  clear d0
  go_cut [] (fun wx=>∃(u:Gst) (ops:List Gop) (oA:Option Addr) (oc:Nat),Hid (wx.heap[w3.heap.size]? =some (.cells #[.int .i64 (tt+1),.int .i64 ((i:Int)+1),.int .i64 (av+1),.slice vA v.length vc,.int .i64 u.t,.int .i64 u.r,.slice oA ops.length oc] 45 (0,0)))∧Hid (NextG KL ⟨tt+1,(i:Int)+1⟩ u ops)∧Hid (OpsS wx (fun b=>w3.heap.size<b) oA ops∧ops.length≤oc∧oc≤maxLen)∧Hid (Below w3.heap.size w3 wx))
  case first=>
   cases b7 with
   | true=>
    by_cases hk0:KL.length=0
    ·have e0:((KL.length:Int) == 0)=true:=by simp[hk0]
     have HX4:=hid ((HB4.out.block _ (lt_of_block HX3.out)).trans HX3.out)
     have HZ4:=hid ((HB4.out.block _ (lt_of_block HZ3.out)).trans HZ3.out)
     have HBA4:=hid (HBA.out.trans (HB4.out.mono HBA.out.size))
     go_upto_region 13 with fail
     obtain⟨V9,hV9⟩:∃X,X=w4.setRow (w00.heap.size+1+1) #[.slice gA L.length gc,.slice (some ⟨kb,0,none⟩) 3 kc]:=⟨_,rfl⟩
     have HV9:=hid hV9
     have HZ9:=hid (show V9.heap[(w00.heap.size+1+1)]? =some (.cells #[.slice gA L.length gc,.slice (some ⟨kb,0,none⟩) 3 kc] 83 (0,0)) by rw[hV9];exact heap_setRow_same _ HZ4.out)
     have hg9:w4.grownBy V9 (some (w00.heap.size+1+1)):=by rw[hV9];exact gby_setRow _ _ _
     have HB9:=hid (HBA4.out.grown hg9 HBA4.out.size (fun b e=>by cases e;omega))
     have HAL9:=hid (show(#[.slice gA L.length gc,.slice (some ⟨kb,0,none⟩) 3 kc]:Array Value).toList.all (·.oneCell')=true by rfl)
     clear hV9 hg9
     go_wp2_with (first
      |(refine load_at rfl _ _ rfl w00.heap.size _ _ _ rfl HX4.out Tryz.underlying83 rfl ?_ ?_;kernel_rfl)
      |(refine store_at rfl _ _ _ rfl (w00.heap.size+1+1) 83 #[.slice none 0 0,.slice none 0 0] #[.slice gA L.length gc,.slice (some ⟨kb,0,none⟩) 3 kc] rfl rfl HZ4.out (by kernel_rfl) rfl HAL9.out ?_;rw[←HV9.out]))
     try simp only[Exit.inBlock,Exit.then]
     refine bodyPost_ret (results_cell_row rfl _ _ (w00.heap.size+1+1) _ _ (0,0) _ rfl HZ9.out Tryz.underlying83 rfl (by kernel_rfl)) rfl ?_
     exact⟨L,K,V,gA,gc,(some ⟨kb,0,none⟩),kc,rfl,⟨(HW0.out.below HB9.out).ok.mono,(HW0.out.below HB9.out).gr,(HW0.out.below HB9.out).gs,(HW0.out.below HB9.out).gd,(HW0.out.below HB9.out).kr,(HW0.out.below HB9.out).ks,(HW0.out.below HB9.out).kd⟩,HB9.out⟩
    ·have e0:((KL.length:Int) == 0)=false:=by simp[hk0]
     have e1:¬(KL.length:Int)=0:=by omega
     obtain⟨k,hk⟩:∃k,k=q2 % KL.length:=⟨_,rfl⟩
     have hkl:k<KL.length:=by rw[hk];exact Nat.mod_lt _ (by omega)
     have hkt:(q2:Int).tmod (KL.length:Int)=(k:Int):=by rw[Int.tmod_eq_emod_of_nonneg (by omega),hk];rfl
     have k1:(0:Int)≤(k:Int):=by omega
     have k2:(k:Int)<(KL.length:Int):=by omega
     obtain⟨rb,ro,e9,hrb,hrr⟩:=(RowGr.own (HO3.out.kept (gby_below (r:=none) HB4.out) (Classical.em _))).range hkl
     cases e9
     have HPM:=hid (getD_memF hkl gp0)
     generalize KL.getD k gp0=p at *
     obtain⟨⟨⟨ut,ur⟩,un,uv,⟨uut,uur⟩,uops⟩,⟨udA,udc,uoA,uoc⟩⟩:=p
     have HST:=hid (show w4.rangeAt rb (ro+k*7) [.int .i64 ut,.int .i64 ur] from range_mid (pre:=[]) (mid:=[.int .i64 ut,.int .i64 ur]) (post:=[.int .i64 un,.slice udA uv.length udc,.int .i64 uut,.int .i64 uur,.slice uoA uops.length uoc]) hrr)
     have d2:w4.cell? ⟨w00.heap.size+1,2,none⟩=some (.int .u8 (q2:Int)):=cell_of_row _ _ _ _ _ _ ((HB4.out.block _ (lt_of_block HD3.out)).trans HD3.out)
     obtain⟨V9,hV9⟩:∃X,X=w4.setCells w3.heap.size 4 [.int .i64 ut,.int .i64 ur]:=⟨_,rfl⟩
     have hV9r:V9=w4.setRow w3.heap.size #[.int .i64 (tt+1),.int .i64 ((i:Int)+1),.int .i64 (av+1),.slice vA v.length vc,.int .i64 ut,.int .i64 ur,.slice none 0 0]:=by rw[hV9,setCells_put _ _ _ _ _ _ HGB.out];rfl
     have HG9:=hid (show V9.heap[w3.heap.size]? =some (.cells #[.int .i64 (tt+1),.int .i64 ((i:Int)+1),.int .i64 (av+1),.slice vA v.length vc,.int .i64 ut,.int .i64 ur,.slice none 0 0] 45 (0,0)) by rw[hV9r];exact heap_setRow_same _ HGB.out)
     have HB9:=hid (show Below w3.heap.size w3 V9 by rw[hV9r];exact Below.setRow' HB4.out (Nat.le_refl _) _)
     have HTH:=hid (there_sub HGB.out (off:=4) (n:=2) (by show 4+2≤7;omega))
     have HV9:=hid hV9
     clear hk hrr hV9 hV9r
     go_wp2_with (first
      |(refine wpList_load_mid rfl _ _ rfl rb (ro+k*7) rfl [.int .i64 ut,.int .i64 ur] _ HST.out Tryz.underlying42 rfl (by kernel_rfl) ?_)
      |(refine wpList_store_mid rfl _ _ _ rfl w3.heap.size 4 #[.int .i64 ut,.int .i64 ur] rfl rfl HTH.out (by kernel_rfl) (by rw[←Array.all_toList];rfl) ?_;rw[←HV9.out]))
     go_meet
     exact⟨⟨ut,ur⟩,[],none,0,HG9,hid ⟨.inr ⟨rfl,_,HPM.out,rfl⟩⟩,hid ⟨⟨fun _=>⟨none,0,none,0⟩,RowG.zero,fun k hk=>absurd hk (Nat.not_lt_zero k)⟩,Nat.le_refl _,Nat.zero_le _⟩,HB9⟩
   | false=>
    have HD4:=hid ((HB4.out.block _ (lt_of_block HD3.out)).trans HD3.out)
    have HST:=hid (show w4.rangeAt w3.heap.size 0 [.int .i64 (tt+1),.int .i64 ((i:Int)+1)] from range_mid (pre:=[]) (mid:=[.int .i64 (tt+1),.int .i64 ((i:Int)+1)]) (post:=[.int .i64 (av+1),.slice vA v.length vc,.int .i64 0,.int .i64 0,.slice none 0 0]) (range_of_block (l:=[.int .i64 (tt+1),.int .i64 ((i:Int)+1),.int .i64 (av+1),.slice vA v.length vc,.int .i64 0,.int .i64 0,.slice none 0 0]) HGB.out))
    have HOP:=hid (opw_any KL lA lc (tt+1) ((i:Int)+1) q0 q1 q2 q3 q4 see S w4 h0 h2 h3 h4 HKK.out ((RowGr.own HO3.out).below HB4.out) (fun p hp=>(HG3.out p hp).agr (Agr.below HB4.out)))
    go_upto_region 16 with(first
     |(refine wpList_load_mid rfl _ _ rfl w3.heap.size 0 rfl [.int .i64 (tt+1),.int .i64 ((i:Int)+1)] _ HST.out Tryz.underlying42 rfl (by kernel_rfl) ?_)
     |(refine load_at rfl _ _ rfl (w00.heap.size+1) _ _ _ rfl HD4.out Tryz.underlying86 rfl ?_ ?_;kernel_rfl)
     |(go_at_call 90;refine HOP.out.mono ?_;rintro e w5 ⟨⟨kd,⟨⟨jt,jr⟩,ji⟩,⟨⟨pt,pr⟩,pi⟩,nm,dd,dots,⟨⟨at_,ar⟩,ai⟩,⟨⟨et,er⟩,ei⟩,tx,elems⟩,⟨sA,sc,eA,ec⟩,ok,rfl,hok,hB5⟩;have HOK:=hid hok;have HB5:=hid hB5;clear hok hB5;dsimp only[opA])
     |(refine store_last rfl _ _ _ rfl _ _ _ _ rfl ?_ rfl ?_ ?_ ?_ ?_;(focus(simp;done));kernel_rfl;rfl;rfl))
    obtain⟨w6,hw6⟩:∃W,W=w5.alloc (.cells #[.int .i64 kd,.int .i64 jt,.int .i64 jr,.int .i64 ji,.int .i64 pt,.int .i64 pr,.int .i64 pi,.string nm,.bool dd,.slice sA dots.length sc,.int .i64 at_,.int .i64 ar,.int .i64 ai,.int .i64 et,.int .i64 er,.int .i64 ei,.string tx,.slice eA elems.length ec] 125):=⟨_,rfl⟩
    rw[←hw6]
    have hB6:Below w5.heap.size w5 w6:=by rw[hw6];exact(Below.refl _ _).alloc (Nat.le_refl _) _
    have HOB:=hid (show w6.heap[w5.heap.size]? =some (.cells #[.int .i64 kd,.int .i64 jt,.int .i64 jr,.int .i64 ji,.int .i64 pt,.int .i64 pr,.int .i64 pi,.string nm,.bool dd,.slice sA dots.length sc,.int .i64 at_,.int .i64 ar,.int .i64 ai,.int .i64 et,.int .i64 er,.int .i64 ei,.string tx,.slice eA elems.length ec] 125 (0,0)) by rw[hw6];exact heap_alloc_new _ _)
    have HB46:=hid (HB5.out.trans (hB6.mono HB5.out.size))
    have h45:=HB5.out.size
    have HG6:=hid ((HB46.out.block _ (lt_of_block HGB.out)).trans HGB.out)
    have hs6:w5.heap.size<w6.heap.size:=by rw[hw6];simp
    cases ok with
    | false=>
     have HX6:=hid ((HB46.out.block _ (by have:=lt_of_block HX3.out;omega)).trans ((HB4.out.block _ (lt_of_block HX3.out)).trans HX3.out))
     have HZ6:=hid ((HB46.out.block _ (by have:=lt_of_block HZ3.out;omega)).trans ((HB4.out.block _ (lt_of_block HZ3.out)).trans HZ3.out))
     have HB36:=hid (HB4.out.trans (HB46.out.mono HB4.out.size))
     have HBA6:=hid (HBA.out.trans (HB36.out.mono HBA.out.size))
     clear hw6
     go_upto_region 17 with fail
     obtain⟨V9,hV9⟩:∃X,X=w6.setRow (w00.heap.size+1+1) #[.slice gA L.length gc,.slice (some ⟨kb,0,none⟩) 3 kc]:=⟨_,rfl⟩
     have HV9:=hid hV9
     have HZ9:=hid (show V9.heap[(w00.heap.size+1+1)]? =some (.cells #[.slice gA L.length gc,.slice (some ⟨kb,0,none⟩) 3 kc] 83 (0,0)) by rw[hV9];exact heap_setRow_same _ HZ6.out)
     have hg9:w6.grownBy V9 (some (w00.heap.size+1+1)):=by rw[hV9];exact gby_setRow _ _ _
     have HB9:=hid (HBA6.out.grown hg9 HBA6.out.size (fun b e=>by cases e;omega))
     have HAL9:=hid (show(#[.slice gA L.length gc,.slice (some ⟨kb,0,none⟩) 3 kc]:Array Value).toList.all (·.oneCell')=true by rfl)
     clear hV9 hg9
     go_wp2_with (first
      |(refine load_at rfl _ _ rfl w00.heap.size _ _ _ rfl HX6.out Tryz.underlying83 rfl ?_ ?_;kernel_rfl)
      |(refine store_at rfl _ _ _ rfl (w00.heap.size+1+1) 83 #[.slice none 0 0,.slice none 0 0] #[.slice gA L.length gc,.slice (some ⟨kb,0,none⟩) 3 kc] rfl rfl HZ6.out (by kernel_rfl) rfl HAL9.out ?_;rw[←HV9.out]))
     try simp only[Exit.inBlock,Exit.then]
     refine bodyPost_ret (results_cell_row rfl _ _ (w00.heap.size+1+1) _ _ (0,0) _ rfl HZ9.out Tryz.underlying83 rfl (by kernel_rfl)) rfl ?_
     exact⟨L,K,V,gA,gc,(some ⟨kb,0,none⟩),kc,rfl,⟨(HW0.out.below HB9.out).ok.mono,(HW0.out.below HB9.out).gr,(HW0.out.below HB9.out).gs,(HW0.out.below HB9.out).gd,(HW0.out.below HB9.out).kr,(HW0.out.below HB9.out).ks,(HW0.out.below HB9.out).kd⟩,HB9.out⟩
    |true=>
     have HOI:=hid (show OpOk ⟨tt+1,(i:Int)+1⟩ ⟨kd,⟨⟨jt,jr⟩,ji⟩,⟨⟨pt,pr⟩,pi⟩,nm,dd,dots,⟨⟨at_,ar⟩,ai⟩,⟨⟨et,er⟩,ei⟩,tx,elems⟩∧OpIn w6 (fun b=>w3.heap.size<b) ⟨kd,⟨⟨jt,jr⟩,ji⟩,⟨⟨pt,pr⟩,pi⟩,nm,dd,dots,⟨⟨at_,ar⟩,ai⟩,⟨⟨et,er⟩,ei⟩,tx,elems⟩ ⟨sA,sc,eA,ec⟩ from⟨(HOK.out rfl).1,((HOK.out rfl).2.agr (Agr.below hB6)).sub (fun b _ (hb:w4.heap.size≤b)=>by omega)⟩)
     obtain⟨V9,hV9⟩:∃X,X=(w6.alloc (.cells #[.int .i64 kd,.int .i64 jt,.int .i64 jr,.int .i64 ji,.int .i64 pt,.int .i64 pr,.int .i64 pi,.string nm,.bool dd,.slice sA dots.length sc,.int .i64 at_,.int .i64 ar,.int .i64 ai,.int .i64 et,.int .i64 er,.int .i64 ei,.string tx,.slice eA elems.length ec] 125)).setCell ⟨w3.heap.size,6,none⟩ (.slice (some ⟨w6.heap.size,0,none⟩) 1 1):=⟨_,rfl⟩
     have HV9:=hid hV9
     have hBa:Below w6.heap.size w6 (w6.alloc (.cells #[.int .i64 kd,.int .i64 jt,.int .i64 jr,.int .i64 ji,.int .i64 pt,.int .i64 pr,.int .i64 pi,.string nm,.bool dd,.slice sA dots.length sc,.int .i64 at_,.int .i64 ar,.int .i64 ai,.int .i64 et,.int .i64 er,.int .i64 ei,.string tx,.slice eA elems.length ec] 125)):=(Below.refl _ _).alloc (Nat.le_refl _) _
     have HGa:=hid ((hBa.block _ (lt_of_block HG6.out)).trans HG6.out)
     have HOa:=hid (show(w6.alloc (.cells #[.int .i64 kd,.int .i64 jt,.int .i64 jr,.int .i64 ji,.int .i64 pt,.int .i64 pr,.int .i64 pi,.string nm,.bool dd,.slice sA dots.length sc,.int .i64 at_,.int .i64 ar,.int .i64 ai,.int .i64 et,.int .i64 er,.int .i64 ei,.string tx,.slice eA elems.length ec] 125)).heap[w6.heap.size]? =some (.cells #[.int .i64 kd,.int .i64 jt,.int .i64 jr,.int .i64 ji,.int .i64 pt,.int .i64 pr,.int .i64 pi,.string nm,.bool dd,.slice sA dots.length sc,.int .i64 at_,.int .i64 ar,.int .i64 ai,.int .i64 et,.int .i64 er,.int .i64 ei,.string tx,.slice eA elems.length ec] 125 (0,0)) from heap_alloc_new _ _)
     have hg9:(w6.alloc (.cells #[.int .i64 kd,.int .i64 jt,.int .i64 jr,.int .i64 ji,.int .i64 pt,.int .i64 pr,.int .i64 pi,.string nm,.bool dd,.slice sA dots.length sc,.int .i64 at_,.int .i64 ar,.int .i64 ai,.int .i64 et,.int .i64 er,.int .i64 ei,.string tx,.slice eA elems.length ec] 125)).grownBy V9 (some w3.heap.size):=by rw[hV9];exact gby_set _ _ _
     have HG9:=hid (show V9.heap[w3.heap.size]? =some (.cells #[.int .i64 (tt+1),.int .i64 ((i:Int)+1),.int .i64 (av+1),.slice vA v.length vc,.int .i64 0,.int .i64 0,.slice (some ⟨w6.heap.size,0,none⟩) 1 1] 45 (0,0)) by rw[hV9];exact set_obj (c:=#[.int .i64 (tt+1),.int .i64 ((i:Int)+1),.int .i64 (av+1),.slice vA v.length vc,.int .i64 0,.int .i64 0,.slice none 0 0]) HGa.out 6 _ rfl)
     have HO9:=hid ((hg9.block _ (lt_of_block HOa.out) (fun e=>by injection e with e;omega)).trans HOa.out)
     have HI9:=hid ((HOI.out.2.agr (Agr.below hBa)).agr (Agr.grown hg9 fun g e1 e2=>by cases e1;exact absurd e2 (Nat.lt_irrefl _)))
     have HB9:=hid (show Below w3.heap.size w3 V9 from((HB4.out.trans (HB46.out.mono HB4.out.size)).trans (hBa.mono (by omega))).grown hg9 (by simp;omega) (fun b e=>by cases e;exact Nat.le_refl _))
     have y6:(w6.alloc (.cells #[.int .i64 kd,.int .i64 jt,.int .i64 jr,.int .i64 ji,.int .i64 pt,.int .i64 pr,.int .i64 pi,.string nm,.bool dd,.slice sA dots.length sc,.int .i64 at_,.int .i64 ar,.int .i64 ai,.int .i64 et,.int .i64 er,.int .i64 ei,.string tx,.slice eA elems.length ec] 125)).cell? ⟨w3.heap.size,6,none⟩=some (.slice none 0 0):=cell_of_row _ _ _ _ _ _ HGa.out
     have f6:(w6.alloc (.cells #[.int .i64 kd,.int .i64 jt,.int .i64 jr,.int .i64 ji,.int .i64 pt,.int .i64 pr,.int .i64 pi,.string nm,.bool dd,.slice sA dots.length sc,.int .i64 at_,.int .i64 ar,.int .i64 ai,.int .i64 et,.int .i64 er,.int .i64 ei,.string tx,.slice eA elems.length ec] 125)).frozen? ⟨w3.heap.size,6,none⟩=false:=frozen_of_row _ _ _ _ _ HGa.out
     clear hV9 hBa hg9 hw6
     go_wp2_with (refine load_at rfl _ _ rfl w5.heap.size _ _ _ rfl HOB.out Tryz.underlying125 rfl ?_ ?_;kernel_rfl)
     go_meet
     rw[←HV9.out]
     exact⟨.zero,[⟨kd,⟨⟨jt,jr⟩,ji⟩,⟨⟨pt,pr⟩,pi⟩,nm,dd,dots,⟨⟨at_,ar⟩,ai⟩,⟨⟨et,er⟩,ei⟩,tx,elems⟩],some ⟨w6.heap.size,0,none⟩,1,HG9,hid ⟨.inl ⟨rfl,_,rfl,HOI.out.1⟩⟩,hid ⟨ops_one (x:=⟨sA,sc,eA,ec⟩) HO9.out HI9.out (by omega),Nat.le_refl _,by unfold maxLen;omega⟩,HB9⟩
  case rest=>
   obtain⟨u,ops,oA,oc,HG8,HNX,HOP8,HB8⟩:=hcut
   generalize wc=w8 at *
   have h38:=HB8.out.size
   have HS8:=hid (RowG.agr HS3.out.1 (Agr.below HB8.out))
   obtain⟨U,hU⟩:∃X,X=withV v ((i:Int)+1) (av+1):=⟨_,rfl⟩
   have HWT:=hid (show Calls Tryz.prog 56 #[.slice vA v.length vc,.int .i64 ((i:Int)+1),.int .i64 (av+1)] w8 fun e w'=>WithQ U w8 e w' by rw[hU];exact refwith_any vA vc v ((i:Int)+1) (av+1) w8 (by omega) (by omega) (by omega) (VecS.vec HS8.out))
   have HUE:=hid hU
   clear hU HB4 HGB hs4 q7
   go_upto_region 21 with(go_at_call 56;refine HWT.out.mono ?_;rintro e w9 ⟨hB9,uA,uc,rfl,hu9,hul,hum⟩;have HU9:=hid (And.intro hu9 (And.intro hul hum));have HB9:=hid hB9;clear hB9 hu9 hul hum)
   have h89:=HB9.out.size
   have HBA9:=hid (show Below w00.heap.size w00 w9 from(HBA.out.trans (HB8.out.mono HBA.out.size)).trans (HB9.out.mono (by have:=HBA.out.size;omega)))
   have HB39:=hid (HB8.out.trans (HB9.out.mono HB8.out.size))
   have HX9:=hid ((HB39.out.block _ (lt_of_block HX3.out)).trans HX3.out)
   have HZ9:=hid ((HB39.out.block _ (lt_of_block HZ3.out)).trans HZ3.out)
   have HG9:=hid ((HB9.out.block _ (lt_of_block HG8.out)).trans HG8.out)
   have hgb:=lt_of_block HG9.out
   have hz9:=lt_of_block HZ3.out
   have hra:=row_at (HW0.out.below HBA9.out).kr
   have HKC:=hid (hra.2 ⟨kb,0,none⟩ rfl)
   have HKF:=hid (show(K.flatMap knC).length=3*1 by rw[flat_len (f:=knC) (s:=1) (fun _=>rfl) K,hk3])
   have HKU:=hid (show ∀u∈K.flatMap knC,u.oneCell'=true from fun u hu=>by obtain⟨x,-,hx⟩:=List.mem_flatMap.1 hu;exact oc_of (c:=(knC x).toArray) rfl u hx)
   have x1:w9.cell? ⟨w00.heap.size,1,none⟩=some (.slice (some ⟨kb,0,none⟩) 3 kc):=cell_of_row _ _ _ _ _ _ HX9.out
   clear hra
   go_upto_region 22 with(at_builtin;refine wpList_append_own _ rfl _ _ 81 rfl w9.heap.size 27 iV (.slice none 0 0) 1 24 Tryz.underlying81 hV hy0 hy1 hy2 rfl (by decide) (.slice none 0 0) 0 _ rfl (by exact(World.ownsRow_nil w9 w9.heap.size 27 1)) ⟨kb,0,none⟩ 3 kc (K.flatMap knC) rfl HKF.out HKC.out HKU.out (by unfold maxLen;omega) (by omega) (by simp) ?_;intro v' w10 hown hgrow _;have HO10:=hid hown;have HB10:=hid (Below.grown (Below.refl w9.heap.size w9) hgrow (by simp) (fun b hb=>(World.ownsRow.lt (World.ownsRow_nil w9 w9.heap.size 27 1) b hb).1));clear hown hgrow)
   clear x1
   obtain⟨A9,c9,rfl⟩:=row_slice HO10.out
   rw[Nat.zero_add] at HO10 ⊢
   obtain⟨g9,hA9,hgl9⟩:∃g9,A9=some ⟨g9,0,none⟩∧w9.heap.size≤g9:=by
    obtain⟨g,cur,e,h9,-⟩:=own_block HO10.out (by omega)
    exact⟨g,e,h9⟩
   cases hA9
   have h910:=HB10.out.size
   have HO10:Hid (w10.ownsRow w9.heap.size 27 1 (.slice (some ⟨g9,0,none⟩) 3 c9) 3 (K.flatMap knC)):=HO10
   obtain⟨V1,hV1⟩:∃X,X=w10.setCell ⟨g9,i,none⟩ (.slice uA U.length uc):=⟨_,rfl⟩
   have hput:=ownN_put (f:=knC) (fun _=>rfl) (by decide) hk3.symm HO10.out hi3 ⟨uA,uc,U⟩
   have hVe:w10.setCells g9 (i*1) (knC ⟨uA,uc,U⟩)=V1:=by rw[hV1,Nat.mul_one];rfl
   rw[hVe] at hput
   have HO11:=hid hput.1
   have HB11:=hid (HB10.out.grown hput.2 HB10.out.size (fun b e=>by cases e;exact hgl9))
   have HV1:=hid hV1
   obtain⟨gg,egg,hth⟩:=own_there HO10.out hi3
   cases egg
   have t1:=hth 0 (by omega)
   rw[Nat.mul_one,Nat.add_zero] at t1
   obtain⟨oc9,hoc9⟩:=Option.isSome_iff_exists.1 t1.1
   have f9:=t1.2
   clear hV1 hput hVe hth t1
   go_upto_region 24 with fail
   rw[←HV1.out]
   clear hoc9 f9
   have h911:=HB11.out.size
   have HX11:=hid ((HB11.out.block _ (lt_of_block HX9.out)).trans HX9.out)
   have HBA11:=hid (HBA9.out.trans (HB11.out.mono HBA9.out.size))
   have x2:V1.cell? ⟨w00.heap.size,0,none⟩=some (.slice gA L.length gc):=cell_of_row _ _ _ _ _ _ HX11.out
   go_cut [16] (fun s wx=>∃(A':Option Addr) (c':Nat),s= .slice A' L.length c'∧Hid (wx.ownsRow V1.heap.size 45 7 (.slice A' L.length c') L.length (L.flatMap grC_))∧Hid (Below V1.heap.size V1 wx))
   case first=>
    have hra:=row_at (HW0.out.below HBA11.out).gr
    have HLF:=hid (lengrC_ L)
    have HLU:=hid (show ∀u∈L.flatMap grC_,u.oneCell'=true from fun u hu=>by obtain⟨x,-,hx⟩:=List.mem_flatMap.1 hu;exact ocgrC_ x u hx)
    cases gA with
    |none=>
     have h0:=hra.1 rfl
     obtain rfl:L=[]:=List.length_eq_zero_iff.1 h0
     go_wp2
     go_meet
     exact⟨none,0,rfl,hid (World.ownsRow_nil _ _ _ _),hid (Below.refl _ _)⟩
    |some ad=>
     have HC:=hid (hra.2 ad rfl)
     clear hra
     go_wp2_with (at_builtin;refine wpList_append_own _ rfl _ _ 25 rfl V1.heap.size 45 iG (.agg #[.int .i64 0,.int .i64 0,.int .i64 0,.slice none 0 0,.int .i64 0,.int .i64 0,.slice none 0 0]) 7 88 Tryz.underlying25 hG hz0 hz1 hz2 rfl (by decide) (.slice none 0 0) 0 _ rfl (by exact(World.ownsRow_nil V1 V1.heap.size 45 7)) ad L.length gc (L.flatMap grC_) rfl HLF.out HC.out HLU.out (by unfold maxLen;omega) (by omega) (by simp) ?_;intro v' w12 hown hgrow _;have HO12:=hid hown;have HB12:=hid (Below.grown (Below.refl V1.heap.size V1) hgrow (by simp) (fun b hb=>(World.ownsRow.lt (World.ownsRow_nil V1 V1.heap.size 45 7) b hb).1));clear hown hgrow)
     obtain⟨A',c',rfl⟩:=row_slice HO12.out
     rw[Nat.zero_add] at HO12
     go_meet
     exact⟨A',c',by rw[Nat.zero_add],HO12,HB12⟩
   case rest=>
    obtain⟨A',c',rfl,HO12,HB12⟩:=hcut
    generalize wc=w12 at *
    clear x2
    have h12:=HB12.out.size
    have HG11:=hid ((HB11.out.block _ hgb).trans HG9.out)
    have HG12:=hid ((HB12.out.block _ (lt_of_block HG11.out)).trans HG11.out)
    have hgq:w3.heap.size<w12.heap.size:=lt_of_block HG12.out
    obtain⟨V2,hV2⟩:∃X,X=w12.alloc (.cells #[.int .i64 (tt+1),.int .i64 ((i:Int)+1),.int .i64 (av+1),.slice vA v.length vc,.int .i64 u.t,.int .i64 u.r,.slice oA ops.length oc] 45):=⟨_,rfl⟩
    have hBa:Below w12.heap.size w12 (w12.alloc (.cells #[.int .i64 (tt+1),.int .i64 ((i:Int)+1),.int .i64 (av+1),.slice vA v.length vc,.int .i64 u.t,.int .i64 u.r,.slice oA ops.length oc] 45)):=(Below.refl _ _).alloc (Nat.le_refl _) _
    have HOa:=hid (HO12.out.kept (gby_below (r:=none) hBa) (Classical.em _))
    have HBa:=hid (HB12.out.trans (hBa.mono HB12.out.size))
    clear hV2 hBa
    go_upto_region 26 with(first
     |(refine load_at rfl _ _ rfl w3.heap.size _ _ _ rfl HG12.out Tryz.underlying45 rfl ?_ ?_;kernel_rfl)
     |(at_builtin;refine wpList_append_lies _ rfl _ _ 25 rfl V1.heap.size 45 iG (.agg #[.int .i64 0,.int .i64 0,.int .i64 0,.slice none 0 0,.int .i64 0,.int .i64 0,.slice none 0 0]) 7 88 Tryz.underlying25 hG hz0 hz1 hz2 rfl (by decide) (.slice A' L.length c') L.length _ rfl (by exact HOa.out) ⟨w12.heap.size,0,none⟩ 1 1 [.int .i64 (tt+1),.int .i64 ((i:Int)+1),.int .i64 (av+1),.slice vA v.length vc,.int .i64 u.t,.int .i64 u.r,.slice oA ops.length oc] rfl rfl (fun j9 y9 h9=>cellsN w12 [.int .i64 (tt+1),.int .i64 ((i:Int)+1),.int .i64 (av+1),.slice vA v.length vc,.int .i64 u.t,.int .i64 u.r,.slice oA ops.length oc] 45 j9 y9 h9) (oc_of (c:=#[.int .i64 (tt+1),.int .i64 ((i:Int)+1),.int .i64 (av+1),.slice vA v.length vc,.int .i64 u.t,.int .i64 u.r,.slice oA ops.length oc]) rfl) (by decide) (by unfold maxLen;omega) (by omega) (by exact HBa.out.size) (w12.heap.size+1) (by simp) ?_;intro gq capq w13 hown hgrow hat hlt5;have HO13:=hid hown;have HB13:=hid (HBa.out.grown hgrow HBa.out.size (fun b hb=>(HOa.out.lt b hb).1));clear hown hgrow hat hlt5))
    have h13s:=HB13.out.size
    have HBA13:=hid (HBA11.out.trans (HB13.out.mono HBA11.out.size))
    have HZ11:=hid ((HB11.out.block _ (by omega)).trans HZ9.out)
    have HZ13:=hid ((HB13.out.block _ (lt_of_block HZ11.out)).trans HZ11.out)
    obtain⟨W,hW⟩:∃X,X=w13.setRow (w00.heap.size+1+1) #[.slice (some ⟨gq,0,none⟩) (L.length+1) capq,.slice (some ⟨g9,0,none⟩) 3 c9]:=⟨_,rfl⟩
    have HWV:=hid hW
    have hgW:w13.grownBy W (some (w00.heap.size+1+1)):=by rw[hW];exact gby_setRow _ _ _
    have HZW:=hid (show W.heap[(w00.heap.size+1+1)]? =some (.cells #[.slice (some ⟨gq,0,none⟩) (L.length+1) capq,.slice (some ⟨g9,0,none⟩) 3 c9] 83 (0,0)) by rw[hW];exact heap_setRow_same _ HZ13.out)
    have HBW:=hid (HBA13.out.grown hgW HBA13.out.size (fun b e=>by cases e;omega))
    have HAL9:=hid (show(#[.slice (some ⟨gq,0,none⟩) (L.length+1) capq,.slice (some ⟨g9,0,none⟩) 3 c9]:Array Value).toList.all (·.oneCell')=true by rfl)
    clear hW
    go_wp2_with (refine store_at rfl _ _ _ rfl (w00.heap.size+1+1) 83 #[.slice none 0 0,.slice none 0 0] #[.slice (some ⟨gq,0,none⟩) (L.length+1) capq,.slice (some ⟨g9,0,none⟩) 3 c9] rfl rfl HZ13.out (by kernel_rfl) rfl HAL9.out ?_;rw[←HWV.out])
    try simp only[Exit.inBlock,Exit.then]
    refine bodyPost_ret (results_cell_row rfl _ _ (w00.heap.size+1+1) _ _ (0,0) _ rfl HZW.out Tryz.underlying83 rfl (by kernel_rfl)) rfl ?_
    have hnx:=HW0.out.ok.next hn hi3 HVV.out.1 HVV.out.2 (u:=u) (ops:=ops) (by rw[←HKE.out];unfold nextS16;rw[←HTT.out];exact HNX.out) ⟨vA,vc,oA,oc⟩
    rw[←HKE.out,←HAV.out,←HUE.out] at hnx
    unfold nextS16 at hnx
    rw[←HTT.out] at hnx
    have hneS:∀(S:Nat→Prop),(∀b,S b→b≠w00.heap.size+1+1)→Agr S w13 W:=fun S hS=>Agr.grown hgW fun g e1 e2=>by cases e1;exact hS _ e2 rfl
    have hB89:Below w8.heap.size w8 w13:=(HB9.out.trans ((HB11.out.trans (HB13.out.mono HB11.out.size)).mono HB9.out.size))
    have hob:=(HW0.out.below HBW.out)
    have hK3:(K.set i ⟨uA,uc,U⟩).map (·.v)=(K.map (·.v)).set i U:=by rw[List.map_set]
    have hlen:(L++[((⟨⟨tt+1,(i:Int)+1⟩,av+1,v,u,ops⟩:Grp),(⟨vA,vc,oA,oc⟩:GrX))]).length=L.length+1:=by simp
    refine⟨L++[((⟨⟨tt+1,(i:Int)+1⟩,av+1,v,u,ops⟩:Grp),(⟨vA,vc,oA,oc⟩:GrX))],K.set i ⟨uA,uc,U⟩,_,some ⟨gq,0,none⟩,capq,some ⟨g9,0,none⟩,c9,by rw[hlen],⟨by rw[hK3];exact hnx,?_,(fun g e=>by have e:some gq=some g:=e;injection e with e;have h9:=(HO13.out.lt gq rfl).1;exact hS g (by omega)),?_,?_,(fun g e=>by have e:some g9=some g:=e;injection e with e;exact hS g (by omega)),?_⟩,HBW.out⟩
    ·rw[hlen,List.flatMap_append]
     exact own_base ((HO13.out.kept hgW (.inr (fun e=>by have:=(HO13.out.lt _ e).1;omega)))) (Nat.zero_le _)
    ·intro p hp
     rcases List.mem_append.1 hp with hp|hp
     ·exact hob.gd p hp
     ·rw[List.mem_singleton] at hp
      subst hp
      refine⟨RowG.sub (RowG.agr (RowG.agr HS8.out (Agr.below hB89)) (hneS _ fun b hb=>hb.1)) (fun _ _ hb=>hb.2),(HOP8.out.1.agr (Agr.below hB89)).agr (hneS _ fun b hb=>by omega) |>.sub (fun b _ hb=>hS b (by omega)),HS3.out.2.1,HOP8.out.2.1,HS3.out.2.2,HOP8.out.2.2,?_,fun x hx=> ?_⟩
      ·show i63 (av+1)
       unfold i63;omega
      ·show i63 x
       obtain⟨q,hq,rfl⟩:=List.mem_iff_getElem.1 hx
       have h9:=HVV.out.1.le ((q:Int)+1)
       have h8:=HW0.out.ok.vn ((q:Int)+1)
       rw[atV_getD,List.getD_eq_getElem?_getD,List.getElem?_eq_getElem hq] at h9
       have h9:0≤v[q]∧v[q]≤atV V ((q:Int)+1):=h9
       exact⟨Int.le_trans (by decide) h9.1,Int.lt_of_le_of_lt (Int.le_trans h9.2 h8) (by omega)⟩
    ·exact own_base ((HO11.out.kept (gby_below (r:=none) HB13.out) (Classical.em _)).kept hgW (.inr (fun e=>by have e:some g9=some (w00.heap.size+1+1):=e;injection e with e;omega))) (Nat.zero_le _)
    ·intro p hp
     rcases List.mem_or_eq_of_mem_set hp with hp|rfl
     ·exact hob.kd p hp
     ·exact⟨RowG.sub (RowG.agr (RowG.agr HU9.out.1 (Agr.below (HB11.out.trans (HB13.out.mono HB11.out.size)))) (hneS _ fun b (hb:w8.heap.size≤b)=>by omega)) (fun b _ (hb:w8.heap.size≤b)=>hS b (by omega)),HU9.out.2.1,HU9.out.2.2⟩
structure Doo where
 q0:Nat
 q1:Nat
 q2:Nat
 q3:Nat
 q4:Nat
 see:Bool
def do0:Doo:=⟨0,0,0,0,0,false⟩
def doC (x:Doo):List Value:=[.int .u8 (x.q0:Int),.int .u8 (x.q1:Int),.int .u8 (x.q2:Int),.int .u8 (x.q3:Int),.int .u8 (x.q4:Int),.bool x.see]
def doOk (x:Doo):Prop:=x.q0≤255∧x.q1≤255∧x.q2≤255∧x.q3≤255∧x.q4≤255
def HisQ (w00:World) (e:Ending) (w':World):Prop:=∃(L:List (Grp×GrX)) (kn:List (List Int)) (V:List Int) (gA:Option Addr) (gc:Nat),e= .returned (.slice gA L.length gc)∧HOk 16 L kn V∧w'.ownsRow 0 45 7 (.slice gA L.length gc) L.length (L.flatMap grC_)∧(∀p∈L,GrG w' (fun _=>True) p)∧Below w00.heap.size w00 w'
theorem HOk.up {gs:List (Grp×GrX)} {kn:List (List Int)} {V:List Int}:∀{n m:Nat},n≤m→HOk n gs kn V→HOk m gs kn V
  | n, 0, hm, h => by obtain rfl:n=0:=by omega
                      exact h
  | n,m+1,hm,h=>by
    by_cases e:n=m+1
    · subst e;exact h
    · exact(HOk.up (m:=m) (by omega) h).mono
theorem WIn.put {b n:Nat} {L:List (Grp×GrX)} {K:List KnX} {V:List Int} {gA kA:Option Addr} {gc kc:Nat} {w w':World} (h:WIn (fun k=>k≠b) n L K V gA gc kA kc w) (hg:w.grownBy w' (some b)):WIn (fun k=>k≠b) n L K V gA gc kA kc w':=by
 have ha:Agr (fun k=>k≠b) w w':=Agr.grown hg fun g e1 e2=>by cases e1;exact e2 rfl
 have hn:∀{v:Value},(∀g,v.ownBlock=some g→g≠b)→v.ownBlock=none∨v.ownBlock≠some b:=fun hv=> .inr fun e=>hv _ e rfl
 exact⟨h.ok,h.gr.kept hg (hn h.gs),h.gs,fun p hp=>(h.gd p hp).agr ha,h.kr.kept hg (hn h.ks),h.ks,fun p hp=>⟨RowG.agr (h.kd p hp).1 ha,(h.kd p hp).2⟩⟩
theorem history_any (D:List Doo) (dA:Option Addr) (dc:Nat) (S0:Nat→Prop) (w00:World) (hD:∀x∈D,doOk x) (hl:D.length≤9223372036854775807) (hR:RowF w00 S0 dA 6 doC do0 D):
  Calls Tryz.prog 17 #[.slice dA D.length dc] w00 fun e w'=>HisQ w00 e w':=by
 have HR:=hid hR
 have HD:=hid hD
 clear hR hD
 go_enter Tryz.func17,Tryz.ntmps17
 go_upto_region 2 with fail
 have sz:=fun (W:World) (o:Obj)=>show(W.alloc o).heap.size=W.heap.size+1 by simp
 have hB2:Below w00.heap.size w00 ((w00.alloc (.cells #[.slice none 0 0,.slice none 0 0,.slice none 0 0] 27)).alloc (.cells #[.slice none 0 0,.slice (some ⟨w00.heap.size,0,none⟩) 3 3] 83)):=((Below.refl _ _).alloc (Nat.le_refl _) _).alloc (by rw[sz];omega) _
 have HK0:=hid (show((w00.alloc (.cells #[.slice none 0 0,.slice none 0 0,.slice none 0 0] 27)).alloc (.cells #[.slice none 0 0,.slice (some ⟨w00.heap.size,0,none⟩) 3 3] 83)).heap[w00.heap.size]? =some (.cells #[.slice none 0 0,.slice none 0 0,.slice none 0 0] 27 (0,0)) from(Below.heap_alloc _ _ _ (by rw[sz];omega)).trans (heap_alloc_new _ _))
 have HWB0:=hid (show((w00.alloc (.cells #[.slice none 0 0,.slice none 0 0,.slice none 0 0] 27)).alloc (.cells #[.slice none 0 0,.slice (some ⟨w00.heap.size,0,none⟩) 3 3] 83)).heap[(w00.heap.size+1)]? =some (.cells #[.slice none 0 0,.slice (some ⟨w00.heap.size,0,none⟩) 3 3] 83 (0,0)) from heap_alloc_newC _ _ (by rw[sz]))
 have HB0:=hid hB2
 generalize hw:((w00.alloc (.cells #[.slice none 0 0,.slice none 0 0,.slice none 0 0] 27)).alloc (.cells #[.slice none 0 0,.slice (some ⟨w00.heap.size,0,none⟩) 3 3] 83))=w at *
 clear hw hB2 sz
 have HW0:=hid (show WIn (fun b=>b≠w00.heap.size+1) 0 [] [kn0,kn0,kn0] [] none 0 (some ⟨w00.heap.size,0,none⟩) 3 w from by
  refine⟨HOk.new,World.ownsRow_nil _ _ _ _,(fun g e=>by cases e),(fun p hp=>by cases hp),⟨rfl,.inr ⟨w00.heap.size,3,#[.slice none 0 0,.slice none 0 0,.slice none 0 0],rfl,Nat.zero_le _,HK0.out,Nat.le_refl _,by decide,rfl,rfl⟩⟩,(fun g e=>by have e:some w00.heap.size=some g:=e;injection e with e;omega),fun p hp=> ?_⟩
  have e:p=kn0:=by simpa using hp
  subst e
  exact⟨RowG.zero,Nat.le_refl _,Nat.zero_le _⟩)
 have HRW:=hid (fun W (hB:Below w00.heap.size w00 W)=>HR.out.below hB)
 clear HK0
 go_upto_region 3 with fail
 go_loopg [4] 16 (fun g0 ix wr=>∃(k:Nat) (L:List (Grp×GrX)) (KL:List KnX) (V:List Int) (gA:Option Addr) (gc:Nat) (kA:Option Addr) (kc:Nat),k+g0=16∧k≤D.length∧ix= .int .i64 k∧Hid (wr.heap[(w00.heap.size+1)]? =some (.cells #[.slice gA L.length gc,.slice kA 3 kc] 83 (0,0)))∧Hid (WIn (fun b=>b≠w00.heap.size+1) k L KL V gA gc kA kc wr)∧Hid (Below w00.heap.size w00 wr))
 case atStart=>exact⟨0,[],[kn0,kn0,kn0],[],none,0,some ⟨w00.heap.size,0,none⟩,3,rfl,Nat.zero_le _,rfl,HWB0,HW0,HB0⟩
 case round=>
  obtain⟨k,L,KL,V,gA,gc,kA,kc,hk,hkD,rfl,HWB,HWI,HB⟩:=hrel
  have hn2:=lt_of_block HWB.out
  by_cases hkl:k<D.length
  ·have i1:(0:Int)≤(k:Int):=by omega
   have i2:(k:Int)<(D.length:Int):=by omega
   by_cases hk16:k<16
   ·have i3:(k:Int)<16:=by omega
    obtain⟨rb,ro,e9,-,hrb,hrr⟩:=HR.out.range (fun _=>rfl) hkl
    have hq:=HD.out _ (getD_memF hkl do0)
    generalize D.getD k do0=x at *
    obtain⟨q0,q1,q2,q3,q4,see⟩:=x
    have hq:q0≤255∧q1≤255∧q2≤255∧q3≤255∧q4≤255:=hq
    cases e9
    have HRW:=hid (fun W (hB:Below w00.heap.size w00 W)=>show W.rangeAt rb (ro+k*6) [.int .u8 (q0:Int),.int .u8 (q1:Int),.int .u8 (q2:Int),.int .u8 (q3:Int),.int .u8 (q4:Int),.bool see] from rangeB hrr hrb hB)
    clear hrr hrb
    go_upto_region 5 with fail
    refine wp_region_held (S:=fun W'=>W'.rangeAt rb (ro+k*6) [.int .u8 (q0:Int),.int .u8 (q1:Int),.int .u8 (q2:Int),.int .u8 (q3:Int),.int .u8 (q4:Int),.bool see]) (by kernel_rfl) ?_
    try(change wpAnyH _ _ _ _ _ _ _ _ (World.drew _))
    refine tk 1 (.slice (some ⟨rb,ro,none⟩) D.length dc) ((show wr.drew.rangeAt _ _ _ from HRW.out wr HB.out)) ?_
    go_simp
    refine tk 2 (.int .i64 (k:Int)) ((show wr.drew.rangeAt _ _ _ from HRW.out wr HB.out)) ?_
    go_simp
    refine tk 3 (.pointer (some ⟨rb,ro+k*6,none⟩)) ((show wr.drew.rangeAt _ _ _ from HRW.out wr HB.out)) ?_
    go_simp
    refine wpAnyH_take (i:=4) (v:= .agg #[.int .u8 (q0:Int),.int .u8 (q1:Int),.int .u8 (q2:Int),.int .u8 (q3:Int),.int .u8 (q4:Int),.bool see]) rfl (by kernel_rfl) (by kernel_rfl) (by kernel_rfl) (fun _ _ _ h=>h) (yieldsIf_load_mid (by rfl) _ _ rfl rb (ro+k*6) rfl [.int .u8 (q0:Int),.int .u8 (q1:Int),.int .u8 (q2:Int),.int .u8 (q3:Int),.int .u8 (q4:Int),.bool see] _ (fun W' hW'=>range_mid (pre:=[]) (mid:=[.int .u8 (q0:Int),.int .u8 (q1:Int),.int .u8 (q2:Int),.int .u8 (q3:Int),.int .u8 (q4:Int),.bool see]) (post:=[]) (hW')) Tryz.underlying86 rfl (by kernel_rfl)) ((show wr.drew.rangeAt _ _ _ from HRW.out wr HB.out)) ?_
    go_simp
    refine wpAnyH_ready (rs:=[0]) (by kernel_rfl) (by simp) ?_
    refine AllReadyH.cons rfl (fun K hK=> ?_) AllReadyH.nil
    refine step_load_mid rfl _ _ rfl (w00.heap.size+1) 0 rfl [.slice gA L.length gc,.slice kA 3 kc] _ (show wr.drew.rangeAt _ _ _ from range_of_block (l:=[.slice gA L.length gc,.slice kA 3 kc]) HWB.out) Tryz.underlying83 rfl (by kernel_rfl) ?_
    refine hK.out _ _ ((show wr.drew.rangeAt _ _ _ from HRW.out wr HB.out)) (fun _=> ?_)
    clear hK K
    refine wpAnyH_ready (rs:=[5]) (by kernel_rfl) (by simp) ?_
    refine AllReadyH.cons rfl (fun K hK=> ?_) AllReadyH.nil
    go_simp
    go_at_call 47
    refine(done_any k L KL V gA gc kA kc q0 q1 q2 q3 q4 see (fun b=>b≠w00.heap.size+1) wr.drew (fun b (hb:wr.heap.size≤b)=>by have:=lt_of_block HWB.out;omega) hk16 hq.1 hq.2.1 hq.2.2.1 hq.2.2.2.1 hq.2.2.2.2 (HWI.out.below ((Below.refl _ _).drew))).mono ?_
    rintro e w2 ⟨L2,K2,V2,gA2,gc2,kA2,kc2,rfl,hW2,hB2⟩
    have hB2:=show Below wr.heap.size wr w2 from((Below.refl wr.heap.size wr).drew).trans hB2
    have HW2:=hid hW2
    have HB2:=hid (HB.out.trans (hB2.mono HB.out.size))
    have HWB2:=hid ((hB2.block _ (lt_of_block HWB.out)).trans HWB.out)
    clear hW2 hB2
    refine hK.out _ _ (HRW.out w2 HB2.out) (fun _=> ?_)
    clear hK K
    obtain⟨X9,hX9⟩:∃X,X=w2.setRow (w00.heap.size+1) #[.slice gA2 L2.length gc2,.slice kA2 3 kc2]:=⟨_,rfl⟩
    have HX9:=hid hX9
    have hg9:w2.grownBy X9 (some (w00.heap.size+1)):=by rw[hX9];exact gby_setRow _ _ _
    have HWB9:=hid (show X9.heap[(w00.heap.size+1)]? =some (.cells #[.slice gA2 L2.length gc2,.slice kA2 3 kc2] 83 (0,0)) by rw[hX9];exact heap_setRow_same _ HWB2.out)
    have HB9:=hid (HB2.out.grown hg9 HB2.out.size (fun b e=>by cases e;omega))
    have HW9:=hid (HW2.out.put hg9)
    have HAL:=hid (show(#[.slice gA2 L2.length gc2,.slice kA2 3 kc2]:Array Value).toList.all (·.oneCell')=true by rfl)
    clear hX9 hg9
    refine wpAnyH_ready (rs:=[6]) (by kernel_rfl) (by simp) ?_
    refine AllReadyH.cons rfl (fun K hK=> ?_) AllReadyH.nil
    refine step_store_at rfl _ _ _ rfl (w00.heap.size+1) 83 #[.slice gA L.length gc,.slice kA 3 kc] #[.slice gA2 L2.length gc2,.slice kA2 3 kc2] rfl rfl HWB2.out (by kernel_rfl) rfl HAL.out ?_
    rw[←HX9.out]
    refine hK.out _ _ (HRW.out X9 HB9.out) (fun _=> ?_)
    clear hK K
    refine wpAnyH_done (by kernel_rfl) ?_ _
    go_simp
    go_wp2
    go_roundg (16-(k+1))
    case measure=>omega
    case rel=>exact⟨k+1,L2,K2,V2,gA2,gc2,kA2,kc2,by omega,by omega,by go_num,HWB9,HW9,HB9⟩
   ·have i3:¬(k:Int)<16:=by omega
    have z1:wr.cell? ⟨w00.heap.size+1,0,none⟩=some (.slice gA L.length gc):=cell_of_row _ _ _ _ _ _ HWB.out
    go_wp2
    go_ret
    exact⟨L,_,V,gA,gc,rfl,HWI.out.ok.up (by omega),HWI.out.gr,fun p hp=>(HWI.out.gd p hp).sub (fun _ _ _=>trivial),HB.out⟩
  ·have i2:¬(k:Int)<(D.length:Int):=by omega
   have z1:wr.cell? ⟨w00.heap.size+1,0,none⟩=some (.slice gA L.length gc):=cell_of_row _ _ _ _ _ _ HWB.out
   go_wp2
   go_ret
   exact⟨L,_,V,gA,gc,rfl,HWI.out.ok.up (by omega),HWI.out.gr,fun p hp=>(HWI.out.gd p hp).sub (fun _ _ _=>trivial),HB.out⟩
end
end Go.Proofs.YtkhmicndehlneaaGreatDoor
