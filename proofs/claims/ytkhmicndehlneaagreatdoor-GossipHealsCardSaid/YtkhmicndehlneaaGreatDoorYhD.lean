/- Part 30 of the walks and plain laws that this claim uses, joined. Conditions: as each theorem states. -/
import Derived.Test.YtkhmicndehlneaaGreatDoorYhC
namespace Go.Proofs.YtkhmicndehlneaaGreatDoor
set_option maxRecDepth 100000
set_option maxHeartbeats 16000000
set_option linter.unusedVariables false
section
open Go.RowKit Go.Lib Go.Sort
attribute [local go_sem ↓] Go.wp_at_zero Go.wp_at_succ
theorem askV_yes {v:List Int} (h:vecB v=true):askV v= .tuple #[.string ⟨(63::jZ v).toArray⟩,(0:Int)]:=by unfold askV;rw[aJ h]
theorem ask_size {v:List Int} (hl:v.length<=16) (h:∀x∈v,0<=x∧x<=1099511627776):(⟨(63::jZ v).toArray⟩:ByteArray).size<=1000000:=by
 have h2:=gM (z:=natZ) (l:=v) λx hx=>cZ (by have:=(h x hx).2;omega);have h3:(natZ (v.length:Int)).length<=10:=cZ (by omega);rw[mkSz,bG];unfold jZ;rw[al];omega
theorem gossipheals_card (D:List Doo) (dA:Option Addr) (dc:Nat) (P:List Int) (pA:Option Addr) (pc:Nat) (W:World) (hc0:D.length<=dc) (hm0:dc<=maxLen) (hR:RowF W (Here W) dA 6 doC do0 D) (hD:∀x∈D,doOk x) (hc1:P.length<=pc) (hm1:pc<=maxLen) (hP:RowF W (Here W) pA 1 u8L 0 P) (hb:∀q∈P,0<=q∧q<=255) (htab:Tabs W):
  Calls Tryz.prog 8 #[.slice dA D.length dc,.slice pA P.length pc] W λe w'=>e= .returned (.bool true)∧Below W.heap.size W w':=by
 have HTB:=hid htab;have HAW:=hid (awake23_any W htab);have HHI:=hid (λW' (h:Below W.heap.size W W')=>history_any D dA dc (Here W) W' hD (by unfold maxLen at hm0;omega) (hR.below h));have HMX:=hid (λW' (h:Below W.heap.size W W') (L:List (Grp×GrX)) gA gc (hl:L.length<=100000) (hr:RowGr W' gA L)=>mixed_any L gA gc P pA pc (Here W) W' hl (by unfold maxLen at hm1;omega) hr (hP.below h) hb);clear hc0 hm0 hR hD hc1 hm1 hP hb htab;go_enter Tryz.func8,Tryz.ntmps8
 go_upto_region 6 with(first
  |(go_at_call 17;refine(HHI.out w1 HB1.out).mono ?_;rintro e w2 ⟨L,kn,V,gA,gc,rfl,hok,hown,hgd,hB2⟩;have HOK:=hid hok;have HOW:=hid (RowGr.own hown);have HGD:=hid hgd;have HB2:=bT HB1 hB2;clear hok hown hgd hB2)
  |(go_at_call 30;refine HAW.out.mono ?_;rintro e w1 ⟨rfl,hB1⟩;have HB1:=hid hB1;clear hB1))
 have hC0:=am w2 (.cells #[.slice none 0 0,.slice none 0 0] 65);have hA0:Below w2.heap.size w2 (w2.alloc (.cells #[.slice none 0 0,.slice none 0 0] 65)):=(ag _ _).alloc (aa _) _;generalize w2.alloc (.cells #[.slice none 0 0,.slice none 0 0] 65)=w3 at *;have HC3:=hid hC0;have HA3:=hid hA0;have HB3:=bT HB2 hA0;have HM:=hid (HMX.out w3 HB3.out L gA gc (by have:=HOK.out.len;omega) (HOW.out.below hA0));clear hC0 hA0 HMX HHI HAW;go_upto_region 8 with(go_at_call 19;refine HM.out.mono ?_;rintro e w4 ⟨mA,mc,rfl,hown,hB4⟩;have HM4:=hid (RowGr.own hown);have HA4:=bT HA3 hB4;have HC4:=bK hB4 HC3;clear hown hB4);obtain⟨M,hM⟩:∃X,X=mixed L P:=⟨_,rfl⟩;obtain⟨G,hG⟩:∃X,X=L.map Prod.fst:=⟨_,rfl⟩;have HHS:=hid (show HisG G by rw[hG];exact HOK.out.his);have hl16:=HOK.out.len;have hgl:G.length=L.length:=by rw[hG,aQ]
 have hg99:G.length<=99:=by omega
 have HMM:=hid (show ∀p∈M,p.1∈G from λp hp=>by rw[hM] at hp;rw[hG];exact bj.2 ⟨p,mixed_mem hp,rfl⟩);have hml:M.length<=30:=by rw[hM];exact mixed_len L P
 have HTX:=hid (show ∀p∈L,∀o∈p.1.ops,o.text.size<=1000000 from λp hp o ho=>by have:=(HOK.out.sml p hp o ho).2.2.1;omega)
 have HTG:=hid (show ∀g∈G,∀o∈g.ops,o.text.size<=1000000 from λg hg o ho=>by
  rw[hG] at hg;obtain⟨p,hp,rfl⟩:=bj.1 hg
  exact HTX.out p hp o ho)
 have HLG:=hid (λp (hp:p∈L)=>((HGD.out p hp).sub (T:=λk=>k<w2.heap.size) λk hk _=>hk).agr (Agr.below HA4.out))
 have HMG:=hid (show ∀p∈M,GrG w4 (λk=>k≠w2.heap.size) p from λp hp=>by
  rw[hM] at hp
  exact(HLG.out p (mixed_mem hp)).sub λk _ h=>by have h:k<w2.heap.size:=h;omega)
 have HP4:=hid (RbAt.new (B:=w2.heap.size) (gs:=G) HC4.out (aa _) HTG.out);have HB4:=bT HB2 HA4.out;rw[<-hM] at HM4;have HAM:=hid (show RowG w4 (λk=>k≠w2.heap.size) mA M.length 7 (λk j=>(grL (M.getD k gp0).1 (M.getD k gp0).2).getD j undef) from(RowG.off HM4.out (noInt_box HC4.out) (by omega) (λk=>⟨_,rfl⟩)).sub λk hk h=>h.2);rw[show(mixed L P).length=M.length by rw[hM]];have HGE:=hid hG;have HGL:=hid hgl;clear hM hG HM4 HM hgl HA3 HC3;go_loopg [9] M.length (λg0 ix wr=>∃k:Nat,k+g0=M.length∧ix= .int .i64 k∧Hid (RbAt w2.heap.size w2.heap.size G w4 (gQ Bx.new ((M.map Prod.fst).take k)) wr))
 case atStart=>exact⟨0,bN _,rfl,HP4⟩
 case round=>
  clear HP4;obtain⟨k,hk,rfl,HP⟩:=hrel;by_cases hkl:k<M.length
  ·have i1:(0:Int)<=(k:Int):=by omega
   have i2:(k:Int)<(M.length:Int):=by omega
   obtain⟨rb,ro,e9,-,hrr⟩:=RowGr.range (RowG.sub (RowG.agr HAM.out HP.out.agr) λ_ _ _=>trivial) hkl;cases e9;have HHR:=hid (HP.out.hear HHS.out hg99 (M.getD k gp0) (HMM.out _ (bL hkl gp0)) (HMG.out _ (bL hkl gp0)));have HSU:=hid (show gQ Bx.new ((M.map Prod.fst).take (k+1))=(bS (gQ Bx.new ((M.map Prod.fst).take k)) (M.getD k gp0).1).1 by rw[hears_next _ (by rw[aQ];exact hkl),mapg_getD]);generalize M.getD k gp0=p at *;obtain⟨⟨⟨t,r⟩,n,dv,⟨ut,ur⟩,ops⟩,⟨dA,dc,oA,oc⟩⟩:=p;have HRR:=hid (show wr.rangeAt rb (ro+k*7) [t,r,n,.slice dA dv.length dc,ut,ur,.slice oA ops.length oc] from hrr);clear hrr
   go_wp2_with (first
    |(refine lM HRR aH ?_)
    |(go_at_call 34;refine HHR.out.mono ?_;rintro e w5 ⟨rfl,hP5⟩;have HP5:=hid hP5;clear hP5))
   go_roundg (M.length-(k+1))
   case measure=>omega
   case rel=>exact⟨k+1,by omega,by go_num,hid (by rw[HSU.out];exact HP5.out)⟩
  ·obtain rfl:k=M.length:=by omega
   have i2:¬(M.length:Int)<(M.length:Int):=by omega
   obtain⟨b,hb⟩:∃X,X=gQ Bx.new ((M.map Prod.fst).take M.length):=⟨_,rfl⟩;rw[<-hb] at HP;clear hb;obtain⟨v,hv⟩:∃x,x=b.v:=⟨_,rfl⟩;have HVE:=hid hv;have HVC:=hid (HP.out.vector hg99);rw[<-hv] at HVC;clear hv;have HBr:=hid (HB2.out.trans ((HA4.out.trans HP.out.low).mono HB2.out.size));go_upto_region 12 with(go_at_call 35;refine HVC.out.mono ?_;rintro e w5 ⟨vA,vc,rfl,hv5,hl5,hc5,hB5⟩;have HV5:=hid hv5;have HL5:=hid hl5;have HC5:=hid hc5;have HN5:=hid hB5;have HB5:=bT HBr hB5;clear hv5 hl5 hc5 hB5);obtain⟨hvb,hvx⟩:=ahead_vec (l:=b.done) (v:=v) (by rw[HVE.out];exact HP.out.his.ok.ahead) HL5.out;obtain⟨Y,hY⟩:∃Y:ByteArray,Y=⟨(63::jZ v).toArray⟩:=⟨_,rfl⟩;have HASK:=hid (ask_any v vA vc w5 HC5.out.1 (by have:=HC5.out.2;unfold maxLen at this;omega) (VecS.vec HV5.out) (λx hx=>by have:=hvx x hx;unfold i63;omega));rw[askV_yes hvb,<-hY] at HASK;have HRY:=hid (show readZ Y.data.toList= .ask v by rw[hY];exact read_ask hvb (λx hx=>by have:=(hvx x hx).2;omega));have HYS:=hid (show Y.size<=1000000 by rw[hY];exact ask_size HL5.out hvx);have hv16:=HL5.out;clear hvb hvx hY HVC
   go_upto_region 14 with(first
    |(go_at_call 36;refine HASK.out.mono ?_;rintro e w6 ⟨rfl,hB6⟩;have HN6:=bT HN5 hB6;have HV6:=hid (RowG.agr HV5.out (Agr.below hB6));have HB6:=bT HB5 hB6;clear hB6)
    |(go_at_call 37;refine(read_any Y w6 HYS.out (HTB.out.below HB6.out)).mono ?_;rintro e w7 hq;obtain⟨hB7,qA,qc,rfl,hR7,hq1,hq2⟩:=ReadQ.ask HRY.out hq;have HN7:=bT HN6 hB7;have HV7:=hid (RowG.agr HV6.out (Agr.below hB7));have HB7:=bT HB6 hB7;have HR7:=hid hR7;clear hB7 hR7 hq)
    |(refine bM rfl _ _ _ rfl _ _ _ _ rfl ?_ rfl ?_ ?_ ?_ ?_;(focus(simp;done));kernel_rfl;rfl;rfl))
   have hba:=(ag w7.heap.size w7).alloc (aa _) (.cells #[(0:Int),(0:Int),(0:Int),.slice none 0 0,(0:Int),(0:Int),.slice none 0 0] 45);generalize w7.alloc (.cells #[(0:Int),(0:Int),(0:Int),.slice none 0 0,(0:Int),(0:Int),.slice none 0 0] 45)=w8 at *;have HN8:=bT HN7 hba;have HB8:=bT HB7 hba;have HR8:=hid (HR7.out.below hba);have HV8:=hid (RowG.agr HV7.out (Agr.below hba));clear hba;have HO28:=hid (show Below w2.heap.size w2 w8 from(HA4.out.trans HP.out.low).trans (HN8.out.mono HP.out.le));have HAN:=hid (answer_any L gA gc qA qc v (λ_=>True) w8 (by omega) (by omega) (HOW.out.below HO28.out) (λp hp=>(HGD.out p hp).agr (Agr.below HO28.out)) HTX.out HOK.out.chk HR8.out (HTB.out.below HB8.out));obtain⟨T,hT⟩:∃X,X=missL v L:=⟨_,rfl⟩;rw[<-hT] at HAN;have HTE:=hid hT;have HTM:=hid (show T.map Prod.fst=G.filter (λg=> !oldB b.v g) by rw[hT,missL_map,HGE.out,HVE.out]);clear hT;go_upto_region 15 with(go_at_call 32;refine HAN.out.mono ?_;rintro e w9 ⟨tA,tc,rfl,hown,hB9⟩;have HT9:=hid ((RowF.own (f:=tellC) (z:=gp0) (λ_=>rfl) hown).sub (T:=λ_=>True) λ_ _ _=>trivial);have HP9:=hid ((HP.out.below HN8.out).below hB9);have HB9:=bT HB8 hB9;have HV9:=hid (RowG.agr HV8.out (Agr.below hB9));have HR9:=hid (HR8.out.below hB9);clear hown hB9);obtain⟨N,nA,nc,hc,hN,hRN,hGN,hnc,hncm⟩:=HP9.out.done;have HC9:=hid hc;have HN9:=hid hN;have HRN:=hid hRN;have HGN:=hid hGN;have HPL:=hid (show w2.heap.size<w9.heap.size from block_lt_of_cell hc);have hlen:=heal_len HHS.out HP9.out.his.toBxG
   have hln2:N.length=b.done.length:=by rw[<-hN,aQ]
   have htn2:T.length=(G.filter (λg=> !oldB b.v g)).length:=by rw[<-HTM.out,aQ]
   have hgl:=HGL.out;have htn:T.length+N.length=L.length:=by omega
   have q1:IntKind.i64.wrap ((T.length:Int)+(N.length:Int))=(L.length:Int):=by rw[bz];omega
   have q2:((L.length:Int) != (L.length:Int))=false:=bne_self_eq_false _;have hn16:N.length<=16:=by omega
   have ht16:T.length<=16:=by omega
   have HSM:=hid (show Calls Tryz.prog 29 #[.slice vA v.length vc,.slice qA v.length qc] w9 λe w'=>e= .returned (.bool true)∧Below w9.heap.size w9 w' from(same_any vA qA vc qc v v w9 (by omega) (VecS.vec HV9.out) HR9.out).mono (by rintro e w' ⟨rfl,h9⟩;exact⟨by rw[aN rfl],h9⟩));clear hc hN hRN hGN hncm hlen hln2 htn2 hgl htn hnc HAN HASK;go_upto_region 17 with(go_at_call 29;refine HSM.out.mono ?_;rintro e w10 ⟨rfl,hB10⟩;have c10:w10.cell? ⟨w2.heap.size,0,none⟩=some (.slice nA N.length nc):=(aS (w:=w9) (w':=w10) (a:=⟨w2.heap.size,0,none⟩) (hB10.block _ HPL.out)).trans HC9.out;have HN10:=hid hB10;clear hB10);have HC10:=hid c10;clear c10 q1 q2;go_upto_region 19 with fail;have hCc:=am w10 (.cells #[.slice none 0 0,.slice none 0 0] 65);have hAc:Below w10.heap.size w10 (w10.alloc (.cells #[.slice none 0 0,.slice none 0 0] 65)):=(ag _ _).alloc (aa _) _;generalize w10.alloc (.cells #[.slice none 0 0,.slice none 0 0] 65)=wc at *;have HAC:=hid hAc;have HPC:=hid (RbAt.new (B:=w10.heap.size) (gs:=G) hCc (aa _) HTG.out);have HN9c:=bT HN10 hAc;have hp10:w2.heap.size<w10.heap.size:=bC HPL.out HN10.out.size;have HP10:=hid hp10;obtain⟨GN,hGN0⟩:∃X,X=N.map Prod.fst:=⟨_,rfl⟩;have hgnl:GN.length=N.length:=by rw[hGN0,aQ]
   have HGNL:=hid hgnl;have HGNE:=hid hGN0;have HGNb:=hid (show GN=b.done by rw[hGN0];exact HN9.out);have HNG:=hid (show ∀p∈N,p.1∈G from λp hp=>HP9.out.his.sub _ (au.2 (.inl (by rw[<-HN9.out];exact bj.2 ⟨p,hp,rfl⟩))));have HNS:=hid (show ∀p∈N,GrG wc (λk=>k≠w10.heap.size) p from λp hp=>(((HGN.out p hp).agr (Agr.below HN10.out)).sub (T:=λk=>k<w10.heap.size) (λk hk _=>hk)).agr (Agr.below hAc) |>.sub λk _ h=>by have h:k<w10.heap.size:=h;omega);clear hCc hAc hGN0 hgnl hp10;go_loopg [19] N.length (λg0 ix wr=>∃k:Nat,k+g0=N.length∧ix= .int .i64 k∧Hid (RbAt w10.heap.size w10.heap.size G wc (gQ Bx.new (GN.take k)) wr))
   case atStart=>exact⟨0,bN _,rfl,HPC⟩
   case round=>
    clear HPC;obtain⟨k,hk2,rfl,HP2⟩:=hrel;have hbl:=HAC.out.trans HP2.out.low;have c10:wr.cell? ⟨w2.heap.size,0,none⟩=some (.slice nA N.length nc):=(aS (w:=w10) (w':=wr) (a:=⟨w2.heap.size,0,none⟩) (hbl.block _ HP10.out)).trans HC10.out;by_cases hkl2:k<N.length
    ·have i1:(0:Int)<=(k:Int):=by omega
     have i3:(k:Int)<(N.length:Int):=by omega
     obtain⟨rb,ro,e9,-,hrr⟩:=(HRN.out.below (HN10.out.trans (hbl.mono HN10.out.size))).range hkl2;cases e9;have HHR:=hid (HP2.out.hear HHS.out hg99 (N.getD k gp0) (HNG.out _ (bL hkl2 gp0)) (HNS.out _ (bL hkl2 gp0)));have HSU:=hid (show gQ Bx.new (GN.take (k+1))=(bS (gQ Bx.new (GN.take k)) (N.getD k gp0).1).1 by rw[hears_next _ (by rw[HGNL.out];exact hkl2),HGNE.out,mapg_getD]);generalize N.getD k gp0=p at *;obtain⟨⟨⟨t,r⟩,n,dv,⟨ut,ur⟩,ops⟩,⟨dA,dc,oA,oc⟩⟩:=p;have HRR:=hid (show wr.rangeAt rb (ro+k*7) [t,r,n,.slice dA dv.length dc,ut,ur,.slice oA ops.length oc] from hrr);clear hrr hbl
     go_wp2_with (first
      |(refine lM HRR aH ?_)
      |(go_at_call 34;refine HHR.out.mono ?_;rintro e w5 ⟨rfl,hP5⟩;have HP5:=hid hP5;clear hP5))
     go_roundg (N.length-(k+1))
     case measure=>omega
     case rel=>exact⟨k+1,by omega,by go_num,hid (by rw[HSU.out];exact HP5.out)⟩
    ·obtain rfl:k=N.length:=by omega
     have i3:¬(N.length:Int)<(N.length:Int):=by omega
     rw[show GN.take N.length=b.done by rw[<-HGNb.out,<-HGNL.out,aK]] at HP2;obtain⟨hH,hHd⟩:=heals_of HHS.out hg99 HP9.out.his;rw[<-HVE.out] at hH;generalize gQ Bx.new b.done=c at *;have HH:=hid hH;have HHD:=hid hHd;obtain⟨GT,hGT⟩:∃X,X=T.map Prod.fst:=⟨_,rfl⟩;have HGTE:=hid hGT;have HGTF:=hid (show GT=G.filter (λg=> !oldB v g) by rw[hGT,HTM.out,HVE.out]);have HGTL:=hid (show GT.length=T.length by rw[hGT,aQ]);have HTL:=hid (show ∀p∈T,p∈L from λp hp=>by rw[HTE.out] at hp;exact(g7.1 hp).1);clear hH hHd hGT hbl;go_upto_region 23 with fail;go_loopg [20] T.length (λg0 ix wx=>∃k:Nat,k+g0=T.length∧ix= .int .i64 k∧Hid (RbAt w10.heap.size w10.heap.size G wc (gQ c (GT.take k)) wx))
     case atStart=>exact⟨0,bN _,rfl,HP2⟩
     case round=>
      clear HP2 c10;obtain⟨k,hk3,rfl,HP3⟩:=hrel;have hbl:=HAC.out.trans HP3.out.low;have hb9:=HN10.out.trans (hbl.mono HN10.out.size);by_cases hkl3:k<T.length
      ·have i1:(0:Int)<=(k:Int):=by omega
       have i4:(k:Int)<(T.length:Int):=by omega
       obtain⟨tb,tq,e9,-,-,htr⟩:=(HT9.out.below hb9).range (λ_=>rfl) hkl3;cases e9;have hpT:T.getD k gp0∈T:=bL hkl3 gp0;have hpL:=HTL.out _ hpT;have hst:=HH.out.step HHS.out hg99 (k:=k) (by rw[<-HGTF.out,HGTL.out];exact hkl3);rw[<-HGTF.out,show GT.getD k gz=(T.getD k gp0).1 by rw[HGTE.out,mapg_getD]] at hst;have hsu:gQ c (GT.take (k+1))=(bS (gQ c (GT.take k)) (T.getD k gp0).1).1:=by rw[hears_next _ (by rw[HGTL.out];exact hkl3),HGTE.out,mapg_getD]
       have HSU:=hid hsu;have hfit:fitG (T.getD k gp0).1:=fit_of (HGD.out _ hpL);have hck:=HOK.out.chk _ hpL;have hsz:=grpZ_hh hfit hck (HOK.out.one _ hpL) (HOK.out.sml _ hpL);have hin:(T.getD k gp0).1∈G:=by rw[HGE.out];exact bj.2 ⟨_,hpL,rfl⟩
       have hcell:wr.cell? ⟨tb,tq+k,none⟩=some (.string (tellS (T.getD k gp0))):=by
        have h9:=htr 0 _ rfl;rwa[jE] at h9
       have HRY2:=hid (show readZ (tellS (T.getD k gp0)).data.toList= .tell (T.getD k gp0).1 by unfold tellS;exact read_tell hfit hck);have HRS2:=hid (show(tellS (T.getD k gp0)).size<=1000000 by unfold tellS;rw[mkSz,bG];omega);have HHR:=hid (λ(x:GrX) (w':World) (hb:Below wr.heap.size wr w')=>HP3.out.hearNew HHS.out hg99 hb ((T.getD k gp0).1,x) hin);dsimp only at HHR;rw[hst] at HHR;have HPUT:=hid (show((gQ c (GT.take k)).put (T.getD k gp0).1)=gQ c (GT.take (k+1)) by rw[hsu,hst]);clear hst hsu hfit hck hsz hin htr hpT hpL;generalize tellS (T.getD k gp0)=Y2 at *;generalize (T.getD k gp0).1=g at *;obtain⟨⟨t,r⟩,n,dv,⟨ut,ur⟩,ops⟩:=g;have HBW:=bT HB9 hb9;clear hbl hb9
       go_upto_region 26 with(first
        |(go_at_call 37;refine(read_any Y2 wr HRS2.out (HTB.out.below HBW.out)).mono ?_;rintro e x1 hq;obtain⟨hX1,eA,ec,fA,fc,he,hI1,-⟩:=ReadQ.tell HRY2.out hq;obtain rfl:e= .returned (.tuple #[false,.slice none 0 0,.agg #[t,r,n,.slice eA dv.length ec,ut,ur,.slice fA ops.length fc],(0:Int)]):=he;have HX1:=hid hX1;have HI1:=hid hI1;clear hX1 hI1 hq)
        |(refine bM rfl _ _ _ rfl _ _ _ _ rfl ?_ rfl ?_ ?_ ?_ ?_;(focus(simp;done));kernel_rfl;rfl;rfl))
       have hba:=(ag x1.heap.size x1).alloc (aa _) (.cells #[t,r,n,.slice eA dv.length ec,ut,ur,.slice fA ops.length fc] 45);have HC4:=hid (am x1 (.cells #[t,r,n,.slice eA dv.length ec,ut,ur,.slice fA ops.length fc] 45));generalize hX2:x1.alloc (.cells #[t,r,n,.slice eA dv.length ec,ut,ur,.slice fA ops.length fc] 45)=x2 at *;clear hX2;have HHE:=hid (HHR.out ⟨eA,ec,fA,fc⟩ x2 (HX1.out.trans (hba.mono HX1.out.size)) (GrIn.agr HI1.out (Agr.below hba)));clear hba
       go_wp2_with (first
        |(refine lA HC4 aH ?_)
        |(go_at_call 34;refine HHE.out.mono ?_;rintro e x5 ⟨rfl,hP5⟩;have HP5:=hid hP5;clear hP5))
       go_roundg (T.length-(k+1))
       case measure=>omega
       case rel=>exact⟨k+1,by omega,by go_num,hid (by rw[<-HPUT.out];exact HP5.out)⟩
      ·obtain rfl:k=T.length:=by omega
       have i4:¬(T.length:Int)<(T.length:Int):=by omega
       rw[show GT.take T.length=GT by rw[<-HGTL.out,aK]] at HP3;have hall:=HH.out.all HHS.out hg99;rw[<-HGTF.out] at hall;generalize gQ c GT=c3 at *;have hdl:c3.done.length=L.length:=by
        rw[hall,al,HHD.out];have h1:=heal_len HHS.out HP9.out.his.toBxG;have h2:=HGL.out;have h3:=congrArg List.length HGTF.out;rw[HVE.out] at h3;omega
       have hcov:covB c3.v v=true:=by rw[HVE.out];exact heal_cov HP9.out.his.ok HP3.out.his.ok (by rw[hall,HHD.out])
       obtain⟨N3,n3A,n3c,c11,hN3,-⟩:=HP3.out.done;have hn3:N3.length=L.length:=by rw[<-hdl,<-hN3,aQ]
       rw[hn3] at c11;have HVC:=hid (HP3.out.vector hg99)
       have HCV:=hid (λW' (hB:Below wr.heap.size wr W') (A:Option Addr) (cc:Nat) (hl:c3.v.length<=16) (hV:VecS W' (λ_=>True) A c3.v)=>show Calls Tryz.prog 38 #[.slice A c3.v.length cc,.slice vA v.length vc] W' λe w'=>e= .returned (.bool true)∧w'=W' from by
        rw[<-hcov]
        exact refcovers_any A vA cc vc c3.v v W' (by omega) (by omega) (VecS.vec hV) (VecS.vec (RowG.agr HV9.out (Agr.below (hb9.trans (hB.mono hb9.size))))))
       have HBW:=bT HB9 hb9;have e1:((L.length:Int) == (L.length:Int))=true:=beq_self_eq_true _;clear hall hdl hcov hN3 hn3 hbl hb9
       go_wp2_with (first
        |(go_at_call 35;refine HVC.out.mono ?_;rintro e x5 ⟨vA5,vc5,rfl,hv5,hl5,hc5,hB5⟩;have HV5':=hid hv5;have HL5':=hid hl5;have HX5:=hid hB5;clear hv5 hl5 hc5 hB5)
        |(go_at_call 38;refine(HCV.out x5 HX5.out _ _ HL5'.out HV5'.out).mono ?_;rintro e x6 ⟨rfl,rfl⟩))
       go_ret;exact⟨rfl,HBW.out.trans (HX5.out.mono HBW.out.size)⟩
end
end Go.Proofs.YtkhmicndehlneaaGreatDoor
