/- Part 19 of the walks and plain laws that this claim uses, joined. Conditions: as each theorem states. -/
import Derived.Test.YtkhmicndehlneaaGreatDoorYrr
namespace Go.Proofs.YtkhmicndehlneaaGreatDoor
set_option maxRecDepth 100000
set_option maxHeartbeats 16000000
set_option linter.unusedVariables false
section
open Go.RowKit Go.Lib Go.Sort
attribute [local go_sem ↓] Go.wp_at_zero Go.wp_at_succ
theorem hasstamp_any (L:List Gst) (A:Option Addr) (c:Nat) (x:Gst) (S:Nat->Prop) (w:World) (Y:L.length<=1000000) (F:RowF w S A 2 stL .zero L):
  Calls Tryz.prog 109 #[.slice A L.length c,.agg (stL x).toArray] w λe w'=>e= .returned (.bool (L.any (λy=>y.eqb x)))∧Below w.heap.size w w':=by
 obtain⟨W,l⟩:∃q,q=(L.any (λy=>y.eqb x)):=⟨_,rfl⟩;rw[<-l];have n:=hid l;clear l;obtain⟨f,g⟩:=x;have u:Below w.heap.size w (w.alloc (.cells #[f,g] 42)):=(ag _ _).alloc (aa _) _;have P:=hid (an w (.cells #[f,g] 42));have z:(w.alloc (.cells #[f,g] 42)).heap.size=w.heap.size+1:=by simp
 have Q:=hid z;have R:=hid u;have T:=hid F;clear u F z;show Calls _ _ #[.slice A L.length c,.agg #[f,g]] _ _;go_enter Tryz.func109,Tryz.ntmps109;go_upto_region 2 with(fail);generalize G:w.alloc (.cells #[f,g] 42)=H at *;clear G;go_loopw [5] (λi wr=>∃k:Nat,i= .int .i64 k∧k<=L.length∧Hid (Below H.heap.size H wr)∧Hid (∀j,j<k->(λy:Gst=>y.eqb ⟨f,g⟩) (L.getD j .zero)=false)) (λi _=>L.length-(RowKit.intOf i).toNat)
 case atStart=>exact⟨0,rfl,aq _,hid (ag _ _),hid (λj I=>absurd I (da j))⟩
 case round=>
  obtain⟨k,rfl,Z,o,J⟩:=hrel;have m:=bT R o.o;by_cases B:k<L.length
  ·obtain⟨K,M,rfl,-,X,d⟩:=(T.o.below m.o).range (λ_=>rfl) B;have i0:(0:Int)<=(k:Int):=by omega
   have U:(k:Int)<(L.length:Int):=by omega
   obtain⟨p,D⟩:∃p,p=L.getD k .zero:=⟨_,rfl⟩;rw[<-D] at d;obtain⟨b,E⟩:∃b,b=(λy:Gst=>y.eqb ⟨f,g⟩) p:=⟨_,rfl⟩;have N:=hid (show(λy:Gst=>y.eqb ⟨f,g⟩) (L.getD k .zero)=b by rw[<-D,E]);clear D;obtain⟨t,r⟩:=p;have q1:=eq_st t r f g b E.symm;have C:=hid ((o.o.block w.heap.size (by rw[Q.o];omega)).trans P.o);have x0:=rg0 C.o;have x1:=rg1 C.o;have y0:=aj (w:=wr) (a:=⟨K,M+k*2,none⟩) (v:= .int .i64 t) (d 0 _ rfl);have y1:=aj (w:=wr) (a:=⟨K,M+k*2+1,none⟩) (v:= .int .i64 r) (d 1 _ rfl);clear d E;cases b with
   |true=>
    go_upto_region 4 with(fail);refine rqb ?_
    repeat(any_goals(first|go_big_quiet_step (fail)|quiet_step (fail)))
    refine qz λV s=> ?_;go_wp2;go_ret;exact⟨by rw[n.o,any_yes B N.o];rfl,m.o.trans (s.mono m.o.size)⟩
   |false=>
    have O:=hid (show ∀j,j<k+1->(λy:Gst=>y.eqb ⟨f,g⟩) (L.getD j .zero)=false from λj I=>if h:j<k then J.o j h else (by(obtain rfl:j=k:=(by omega));exact N.o));go_upto_region 4 with(fail);refine rqb ?_
    repeat(any_goals(first|go_big_quiet_step (fail)|quiet_step (fail)))
    refine qz λV s=> ?_;go_wp2;go_roundw
    case rel=>exact⟨k+1,by go_num,by omega,bT o s,O⟩
    case measure=>(simp[RowKit.intOf];omega)
  ·obtain rfl:k=L.length:=by omega
   have U:¬(L.length:Int)<(L.length:Int):=by omega
   go_wp2;go_ret;exact⟨by rw[n.o,any_no J.o];rfl,m.o⟩
theorem hasid_any (L:List Gid) (A:Option Addr) (c:Nat) (x:Gid) (S:Nat->Prop) (w:World) (hl:L.length<=1000000) (J:RowF w S A 3 idL .zero L):
  Calls Tryz.prog 173 #[.slice A L.length c,.agg (idL x).toArray] w λe w'=>e= .returned (.bool (L.any (λy=>y.eqb x)))∧Below w.heap.size w w':=by
 obtain⟨Y,m⟩:∃q,q=(L.any (λy=>y.eqb x)):=⟨_,rfl⟩;rw[<-m];have s:=hid m;clear m;obtain⟨⟨f,g⟩,l⟩:=x;have C:Below w.heap.size w (w.alloc (.cells #[f,g,l] 108)):=(ag _ _).alloc (aa _) _;have R:=hid (an w (.cells #[f,g,l] 108));have D:(w.alloc (.cells #[f,g,l] 108)).heap.size=w.heap.size+1:=by simp
 have T:=hid D;have U:=hid C;have V:=hid J;clear C J D;show Calls _ _ #[.slice A L.length c,.agg #[f,g,l]] _ _;go_enter Tryz.func173,Tryz.ntmps173;go_upto_region 2 with(fail);generalize K:w.alloc (.cells #[f,g,l] 108)=M at *;clear K;go_loopw [5] (λi wr=>∃k:Nat,i= .int .i64 k∧k<=L.length∧Hid (Below M.heap.size M wr)∧Hid (∀j,j<k->(λy:Gid=>y.eqb ⟨⟨f,g⟩,l⟩) (L.getD j .zero)=false)) (λi _=>L.length-(RowKit.intOf i).toNat)
 case atStart=>exact⟨0,rfl,aq _,hid (ag _ _),hid (λj N=>absurd N (da j))⟩
 case round=>
  obtain⟨k,rfl,hk,u,O⟩:=hrel;have o:=bT U u.o;by_cases E:k<L.length
  ·obtain⟨F,G,rfl,-,Z,d⟩:=(V.o.below o.o).range (λ_=>rfl) E;have i0:(0:Int)<=(k:Int):=by omega
   have W:(k:Int)<(L.length:Int):=by omega
   obtain⟨p,H⟩:∃p,p=L.getD k .zero:=⟨_,rfl⟩;rw[<-H] at d;obtain⟨b,I⟩:∃b,b=(λy:Gid=>y.eqb ⟨⟨f,g⟩,l⟩) p:=⟨_,rfl⟩;have P:=hid (show(λy:Gid=>y.eqb ⟨⟨f,g⟩,l⟩) (L.getD k .zero)=b by rw[<-H,I]);clear H;obtain⟨⟨t,r⟩,n⟩:=p;have q1:=eN t r n f g l b I.symm;have z:=hid ((u.o.block w.heap.size (by rw[T.o];omega)).trans R.o);have x0:=rg0 z.o;have x1:=rg1 z.o;have x2:=rg2 z.o;have y0:=aj (w:=wr) (a:=⟨F,G+k*3,none⟩) (v:= .int .i64 t) (d 0 _ rfl);have y1:=aj (w:=wr) (a:=⟨F,G+k*3+1,none⟩) (v:= .int .i64 r) (d 1 _ rfl);have y2:=aj (w:=wr) (a:=⟨F,G+k*3+2,none⟩) (v:= .int .i64 n) (d 2 _ rfl);clear d I;cases b with
   |true=>
    go_upto_region 4 with(fail);refine rqb ?_
    repeat(any_goals(first|go_big_quiet_step (fail)|quiet_step (fail)))
    refine qz λX B=> ?_;go_wp2;go_ret;exact⟨by rw[s.o,any_yes E P.o];rfl,o.o.trans (B.mono o.o.size)⟩
   |false=>
    have Q:=hid (show ∀j,j<k+1->(λy:Gid=>y.eqb ⟨⟨f,g⟩,l⟩) (L.getD j .zero)=false from λj N=>if h:j<k then O.o j h else (by(obtain rfl:j=k:=(by omega));exact P.o));go_upto_region 4 with(fail);refine rqb ?_
    repeat(any_goals(first|go_big_quiet_step (fail)|quiet_step (fail)))
    refine qz λX B=> ?_;go_wp2;go_roundw
    case rel=>exact⟨k+1,by go_num,by omega,bT u B,Q⟩
    case measure=>(simp[RowKit.intOf];omega)
  ·obtain rfl:k=L.length:=by omega
   have W:¬(L.length:Int)<(L.length:Int):=by omega
   go_wp2;go_ret;exact⟨by rw[s.o,any_no O.o];rfl,o.o⟩
theorem hasdot_any (L:List Dt) (A:Option Addr) (c:Nat) (x:Dt) (S:Nat->Prop) (w:World) (hl:L.length<=1000000) (M:RowF w S A 5 dtL dt0 L):
  Calls Tryz.prog 174 #[.slice A L.length c,.agg (dtL x).toArray] w λe w'=>e= .returned (.bool (L.any (λy=>y.eqb x)))∧Below w.heap.size w w':=by
 obtain⟨ab,u⟩:∃q,q=(L.any (λy=>y.eqb x)):=⟨_,rfl⟩;rw[<-u];have B:=hid u;clear u;obtain⟨⟨⟨f,g⟩,l⟩,⟨m,o⟩⟩:=x;have G:Below w.heap.size w (w.alloc (.cells #[f,g,l,m,o] 163)):=(ag _ _).alloc (aa _) _;have W:=hid (an w (.cells #[f,g,l,m,o] 163));have H:(w.alloc (.cells #[f,g,l,m,o] 163)).heap.size=w.heap.size+1:=by simp
 have X:=hid H;have Y:=hid G;have Z:=hid M;clear G M H;show Calls _ _ #[.slice A L.length c,.agg #[f,g,l,m,o]] _ _;go_enter Tryz.func174,Tryz.ntmps174;go_upto_region 2 with(fail);generalize N:w.alloc (.cells #[f,g,l,m,o] 163)=O at *;clear N;go_loopw [5] (λi wr=>∃k:Nat,i= .int .i64 k∧k<=L.length∧Hid (Below O.heap.size O wr)∧Hid (∀j,j<k->(λy:Dt=>y.eqb ⟨⟨⟨f,g⟩,l⟩,⟨m,o⟩⟩) (L.getD j dt0)=false)) (λi _=>L.length-(RowKit.intOf i).toNat)
 case atStart=>exact⟨0,rfl,aq _,hid (ag _ _),hid (λj P=>absurd P (da j))⟩
 case round=>
  obtain⟨k,rfl,hk,C,Q⟩:=hrel;have z:=bT Y C.o;by_cases I:k<L.length
  ·obtain⟨D,E,rfl,-,ac,d⟩:=(Z.o.below z.o).range (λ_=>rfl) I;have i0:(0:Int)<=(k:Int):=by omega
   have i1:(k:Int)<(L.length:Int):=by omega
   obtain⟨p,J⟩:∃p,p=L.getD k dt0:=⟨_,rfl⟩;rw[<-J] at d;obtain⟨b,K⟩:∃b,b=(λy:Dt=>y.eqb ⟨⟨⟨f,g⟩,l⟩,⟨m,o⟩⟩) p:=⟨_,rfl⟩;have R:=hid (show(λy:Dt=>y.eqb ⟨⟨⟨f,g⟩,l⟩,⟨m,o⟩⟩) (L.getD k dt0)=b by rw[<-J,K]);clear J;obtain⟨⟨⟨t,r⟩,n⟩,⟨T,U⟩⟩:=p;have q1:=eq_dt t r n T U f g l m o b K.symm;have s:=hid ((C.o.block w.heap.size (by rw[X.o];omega)).trans W.o);have x0:=rg0 s.o;have x1:=rg1 s.o;have x2:=rg2 s.o;have x3:=rg3 s.o;have x4:=rg4 s.o;have y0:=aj (w:=wr) (a:=⟨D,E+k*5,none⟩) (v:= .int .i64 t) (d 0 _ rfl);have y1:=aj (w:=wr) (a:=⟨D,E+k*5+1,none⟩) (v:= .int .i64 r) (d 1 _ rfl);have y2:=aj (w:=wr) (a:=⟨D,E+k*5+2,none⟩) (v:= .int .i64 n) (d 2 _ rfl);have y3:=aj (w:=wr) (a:=⟨D,E+k*5+3,none⟩) (v:= .int .i64 T) (d 3 _ rfl);have y4:=aj (w:=wr) (a:=⟨D,E+k*5+4,none⟩) (v:= .int .i64 U) (d 4 _ rfl);clear d K;cases b with
   |true=>
    go_upto_region 4 with(fail);refine rqb ?_
    repeat(any_goals(first|go_big_quiet_step (fail)|quiet_step (fail)))
    refine qz λwq F=> ?_;go_wp2;go_ret;exact⟨by rw[B.o,any_yes I R.o];rfl,z.o.trans (F.mono z.o.size)⟩
   |false=>
    have V:=hid (show ∀j,j<k+1->(λy:Dt=>y.eqb ⟨⟨⟨f,g⟩,l⟩,⟨m,o⟩⟩) (L.getD j dt0)=false from λj P=>if h:j<k then Q.o j h else (by(obtain rfl:j=k:=(by omega));exact R.o));go_upto_region 4 with(fail);refine rqb ?_
    repeat(any_goals(first|go_big_quiet_step (fail)|quiet_step (fail)))
    refine qz λwq F=> ?_;go_wp2;go_roundw
    case rel=>exact⟨k+1,by go_num,by omega,bT C F,V⟩
    case measure=>(simp[RowKit.intOf];omega)
  ·obtain rfl:k=L.length:=by omega
   have i1:¬(L.length:Int)<(L.length:Int):=by omega
   go_wp2;go_ret;exact⟨by rw[B.o,any_no Q.o];rfl,z.o⟩
theorem gW (L:List Plc) (A:Option Addr) (c:Nat) (x:Gid) (S:Nat->Prop) (w:World) (hl:L.length<=1000000) (K:RowF w S A 8 plcL plc0 L):
  Calls Tryz.prog 169 #[.slice A L.length c,.agg (idL x).toArray] w λe w'=>e= .returned (.int .i64 (ixI (L.findIdx? (λy=>y.n.eqb x))))∧Below w.heap.size w w':=by
 obtain⟨Y,m⟩:∃q,q=(ixI (L.findIdx? (λy=>y.n.eqb x))):=⟨_,rfl⟩;rw[<-m];have s:=hid m;clear m;obtain⟨⟨f,g⟩,l⟩:=x;have C:Below w.heap.size w (w.alloc (.cells #[f,g,l] 108)):=(ag _ _).alloc (aa _) _;have R:=hid (an w (.cells #[f,g,l] 108));have D:(w.alloc (.cells #[f,g,l] 108)).heap.size=w.heap.size+1:=by simp
 have T:=hid D;have U:=hid C;have V:=hid K;clear C K D;show Calls _ _ #[.slice A L.length c,.agg #[f,g,l]] _ _;go_enter Tryz.func169,Tryz.ntmps169;go_upto_region 2 with(fail);generalize M:w.alloc (.cells #[f,g,l] 108)=N at *;clear M;go_loopw [5] (λi wr=>∃k:Nat,i= .int .i64 k∧k<=L.length∧Hid (Below N.heap.size N wr)∧Hid (∀j,j<k->(λy:Plc=>y.n.eqb ⟨⟨f,g⟩,l⟩) (L.getD j plc0)=false)) (λi _=>L.length-(RowKit.intOf i).toNat)
 case atStart=>exact⟨0,rfl,aq _,hid (ag _ _),hid (λj O=>absurd O (da j))⟩
 case round=>
  obtain⟨k,rfl,hk,u,F⟩:=hrel;have o:=bT U u.o;by_cases E:k<L.length
  ·obtain⟨G,H,rfl,-,Z,d⟩:=(V.o.below o.o).range (λ_=>rfl) E;have i0:(0:Int)<=(k:Int):=by omega
   have W:(k:Int)<(L.length:Int):=by omega
   obtain⟨p,I⟩:∃p,p=L.getD k plc0:=⟨_,rfl⟩;rw[<-I] at d;obtain⟨b,J⟩:∃b,b=(λy:Plc=>y.n.eqb ⟨⟨f,g⟩,l⟩) p:=⟨_,rfl⟩;have P:=hid (show(λy:Plc=>y.n.eqb ⟨⟨f,g⟩,l⟩) (L.getD k plc0)=b by rw[<-I,J]);clear I;obtain⟨⟨⟨t,r⟩,n⟩,pp,pn,pd⟩:=p;have q1:=eN t r n f g l b J.symm;have z:=hid ((u.o.block w.heap.size (by rw[T.o];omega)).trans R.o);have x0:=rg0 z.o;have x1:=rg1 z.o;have x2:=rg2 z.o;have y0:=aj (w:=wr) (a:=⟨G,H+k*8,none⟩) (v:= .int .i64 t) (d 0 _ rfl);have y1:=aj (w:=wr) (a:=⟨G,H+k*8+1,none⟩) (v:= .int .i64 r) (d 1 _ rfl);have y2:=aj (w:=wr) (a:=⟨G,H+k*8+2,none⟩) (v:= .int .i64 n) (d 2 _ rfl);clear d J;cases b with
   |true=>
    go_upto_region 4 with(fail);refine rqb ?_
    repeat(any_goals(first|go_big_quiet_step (fail)|quiet_step (fail)))
    refine qz λX B=> ?_;go_wp2;go_ret;exact⟨by rw[s.o,ix_some E P.o F.o];rfl,o.o.trans (B.mono o.o.size)⟩
   |false=>
    have Q:=hid (show ∀j,j<k+1->(λy:Plc=>y.n.eqb ⟨⟨f,g⟩,l⟩) (L.getD j plc0)=false from λj O=>if h:j<k then F.o j h else (by(obtain rfl:j=k:=(by omega));exact P.o));go_upto_region 4 with(fail);refine rqb ?_
    repeat(any_goals(first|go_big_quiet_step (fail)|quiet_step (fail)))
    refine qz λX B=> ?_;go_wp2;go_roundw
    case rel=>exact⟨k+1,by go_num,by omega,bT u B,Q⟩
    case measure=>(simp[RowKit.intOf];omega)
  ·obtain rfl:k=L.length:=by omega
   have W:¬(L.length:Int)<(L.length:Int):=by omega
   go_wp2;go_ret;exact⟨by rw[s.o,ix_none F.o];rfl,o.o⟩
theorem bC {w:World} {b o:Nat} {pre mid post:List Value} (h:w.rangeAt b o (pre++(mid++post))):w.rangeAt b (o+pre.length) mid:=λj v hv=>by
 have:=h (pre.length+j) v (by rw[dy (by omega),show pre.length+j-pre.length=j by omega,eE (eD.1 hv).1];exact hv)
 rwa[Nat.add_assoc]
theorem ct {w w':World} {b o:Nat} {cs:List Value} (h:w.rangeAt b o cs) (hb:b<w.heap.size) (hB:Below w.heap.size w w'):w'.rangeAt b o cs:=λj v hv=>(be (w:=w) (w':=w') (a:=⟨b,o+j,none⟩) (hB.block b hb)).trans (h j v hv)
theorem info_st:(Tryz.prog.info? 42).map (λi=>(i.zero,i.size,i.bytes))=some (some (.agg #[(0:Int),(0:Int)]),2,16):=by kernel_rfl
theorem info_id:(Tryz.prog.info? 108).map (λi=>(i.zero,i.size,i.bytes))=some (some (.agg #[(0:Int),(0:Int),(0:Int)]),3,24):=by kernel_rfl
theorem oc_idL (x:Gid):∀u∈idL x,u.oneCell'=true:=fx (c:=(idL x).toArray) rfl
theorem info_dt:(Tryz.prog.info? 163).map (λi=>(i.zero,i.size,i.bytes))=some (some (.agg #[(0:Int),(0:Int),(0:Int),(0:Int),(0:Int)]),5,40):=by kernel_rfl
theorem info_plc:(Tryz.prog.info? 161).map (λi=>(i.zero,i.size,i.bytes))=some (some (.agg #[(0:Int),(0:Int),(0:Int),(0:Int),(0:Int),(0:Int),.string ⟨#[]⟩,false]),8,72):=by kernel_rfl
theorem info_told:(Tryz.prog.info? 228).map (λi=>(i.zero,i.size,i.bytes))=some (some (.agg #[(0:Int),(0:Int),(0:Int),(0:Int),(0:Int),(0:Int),(0:Int),(0:Int),(0:Int),.string ⟨#[]⟩,false]),11,96):=by kernel_rfl
theorem info_hd:(Tryz.prog.info? 224).map (λi=>(i.zero,i.size,i.bytes))=some (some (.agg #[(0:Int),(0:Int),(0:Int),(0:Int)]),4,32):=by kernel_rfl
theorem info_elt:(Tryz.prog.info? 169).map (λi=>(i.zero,i.size,i.bytes))=some (some (.agg #[(0:Int),(0:Int),(0:Int),(0:Int),(0:Int),(0:Int),.string ⟨#[]⟩]),7,64):=by kernel_rfl
theorem info_rn:(Tryz.prog.info? 238).map (λi=>(i.zero,i.size,i.bytes))=some (some (.agg #[(0:Int),(0:Int),(0:Int),(0:Int),(0:Int),(0:Int),.string ⟨#[]⟩]),7,64):=by kernel_rfl
theorem info_itm:(Tryz.prog.info? 110).map (λi=>(i.zero,i.size,i.bytes))=some (some (.agg #[(0:Int),(0:Int),(0:Int),.string ⟨#[]⟩,false,false]),6,48):=by kernel_rfl
def hdOf (p:Grp×GrX):Hd:=⟨p.1.s,p.1.u⟩
theorem heads_any (L:List (Grp×GrX)) (A:Option Addr) (c:Nat) (w:World) (hl:L.length<=100000) (U:RowGr w A L):
  Calls Tryz.prog 108 #[.slice A L.length c] w λe w'=>∃A' c',e= .returned (.slice A' L.length c')∧w'.ownsRow w.heap.size 224 4 (.slice A' L.length c') L.length ((L.map hdOf).flatMap hdL)∧Below w.heap.size w w':=by
 obtain⟨i0,hi,V,X,Y⟩:=bx info_hd;have HR:=hid U;clear U;go_enter Tryz.func108,Tryz.ntmps108;go_upto_region 3 with fail;go_loopw [3,4] (λo i wr=>∃(k:Nat) (A':Option Addr) (c':Nat),k<=L.length∧i= .int .i64 k∧o= .slice A' k c'∧Hid (wr.ownsRow w.heap.size 224 4 (.slice A' k c') k (((L.take k).map hdOf).flatMap hdL))∧Hid (Below w.heap.size w wr)) (λo i _=>L.length-(RowKit.intOf i).toNat)
 case atStart=>exact⟨0,none,0,aq _,rfl,rfl,hid (aH _ _ _ _),hid (ag _ _)⟩
 case round=>
  obtain⟨k,A',c',hk,rfl,rfl,R,g⟩:=hrel;by_cases M:k<L.length
  ·have i1:(0:Int)<=(k:Int):=by omega
   have i2:(k:Int)<(L.length:Int):=by omega
   obtain⟨l,m,rfl,N,q⟩:=HR.o.range M;have O:L.take (k+1)=L.take k++[L.getD k gp0]:=dQ M gp0;generalize L.getD k gp0=p at *;obtain⟨⟨⟨t,r⟩,n,F,⟨d,f⟩,s⟩,⟨G,H,I,J⟩⟩:=p;have v:=hid (λW (hB:Below w.heap.size w W)=>show W.rangeAt l (m+k*7) [t,r,n,.slice G F.length H,d,f,.slice I s.length J] from ct q N hB);have a:=hid (v.o wr g.o);have Z:=hid O;have ah:=g.o.size;clear q N O;go_upto_region 5 with fail;refine aY (S:=λw'=>w'.rangeAt l (m+k*7) [t,r,n,.slice G F.length H,d,f,.slice I s.length J]) (by kernel_rfl) ?_
   try(change wpAnyH _ _ _ _ _ _ _ _ (World.drew _))
   refine tk 0 (.slice A' k c') ((show wr.drew.rangeAt _ _ _ from a.o)) ?_;go_simp;refine tk 1 (.slice (some ⟨l,m,none⟩) L.length c) ((show wr.drew.rangeAt _ _ _ from a.o)) ?_;go_simp;refine tk 2 (.int .i64 (k:Int)) ((show wr.drew.rangeAt _ _ _ from a.o)) ?_;go_simp;refine tk 3 (.pointer (some ⟨l,m+k*7,none⟩)) ((show wr.drew.rangeAt _ _ _ from a.o)) ?_;go_simp;refine tk 4 (.pointer (some ⟨l,m+k*7,none⟩)) ((show wr.drew.rangeAt _ _ _ from a.o)) ?_;go_simp;refine tk2 5 (.agg #[t,r]) rfl (bc (by rfl) _ _ rfl l (m+k*7) rfl [t,r] _ (λW' B=>bC (pre:=[]) (mid:=[t,r]) (post:=[n,.slice G F.length H,d,f,.slice I s.length J]) (B)) cr rfl (by kernel_rfl)) ((show wr.drew.rangeAt _ _ _ from a.o)) ?_;go_simp;refine tk 6 (.slice (some ⟨l,m,none⟩) L.length c) ((show wr.drew.rangeAt _ _ _ from a.o)) ?_;go_simp;refine tk 7 (.int .i64 (k:Int)) ((show wr.drew.rangeAt _ _ _ from a.o)) ?_;go_simp;refine tk 8 (.pointer (some ⟨l,m+k*7,none⟩)) ((show wr.drew.rangeAt _ _ _ from a.o)) ?_;go_simp;refine tk 9 (.pointer (some ⟨l,m+k*7+4,none⟩)) ((show wr.drew.rangeAt _ _ _ from a.o)) ?_;go_simp;refine tk2 10 (.agg #[d,f]) rfl (bc (by rfl) _ _ rfl l (m+k*7+4) rfl [d,f] _ (λW' B=>bC (pre:=[t,r,n,.slice G F.length H]) (mid:=[d,f]) (post:=[.slice I s.length J]) (B)) cr rfl (by kernel_rfl)) ((show wr.drew.rangeAt _ _ _ from a.o)) ?_;go_simp
   refine tk 11 (.agg #[t,r,d,f]) ((show wr.drew.rangeAt _ _ _ from a.o)) ?_;go_simp;have C:(wr.alloc (.cells #[t,r,d,f] 224)).drew.heap.size=wr.heap.size+1:=by show(wr.alloc _).heap.size=_;simp
   have aa:=hid (R.o.alloc (.cells #[t,r,d,f] 224));have ab:=hid (λ(j:Nat) (y:Value) (h:([t,r,d,f]:List Value)[j]? =some y)=>dH wr [t,r,d,f] 224 j y h);have ac:=hid (show ∀u∈([t,r,d,f]:List Value),u.oneCell'=true from fx (c:=#[t,r,d,f]) rfl);have P:=hid ((g.o.alloc g.o.size (.cells #[t,r,d,f] 224)).drew);refine rd1 12 λK D=> ?_;go_simp;refine D.out _ _ (v.o _ P.o) (λ_=> ?_);clear D K;refine rd1 13 λK D=> ?_;refine ds _ (by rfl) _ _ 157 (by rfl) w.heap.size 224 i0 (.agg #[(0:Int),(0:Int),(0:Int),(0:Int)]) 4 32 Tryz.underlying157 hi V X Y rfl (by decide) (.slice A' k c') k _ (by rfl) (by exact aa.o) ⟨wr.heap.size,0,none⟩ 1 1 [t,r,d,f] (by rfl) (by rfl) (by exact ab.o) ac.o (by decide) (by unfold maxLen;omega) (by omega) (by rw[C];have:=g.o.size;omega) (wr.heap.size+1) C ?_;intro gq Q w5 x z ad T;have ae:=hid x;have E:=hid (P.o.grown z (by rw[C];have:=g.o.size;omega) (λb hb=>(R.o.lt b hb).1));clear x z ad T;refine D.out _ _ (v.o _ E.o) (λ_=> ?_);clear D K;refine tk 14 (.slice (some ⟨gq,0,none⟩) (k+1) Q) (v.o _ E.o) ?_;go_simp;refine bp (by kernel_rfl) ?_ _;go_simp;go_wp2;go_roundw
   case rel=>exact⟨k+1,some ⟨gq,0,none⟩,Q,by omega,by go_num,rfl,hid (by rw[Z.o,bD,aK];exact ae.o),E⟩
   case measure=>(simp[RowKit.intOf];omega)
  ·obtain rfl:k=L.length:=by omega
   have i2:¬(L.length:Int)<(L.length:Int):=by omega
   have af:=hid (show wr.ownsRow w.heap.size 224 4 (.slice A' L.length c') L.length ((L.map hdOf).flatMap hdL) by have h9:=R.o;rw[aO] at h9;exact h9);go_wp2;go_ret;exact⟨A',c',rfl,af.o,g.o⟩
def ek {α:Type} (p:α->Bool) (z:α) (L:List α):Nat->Nat
 |0=>0
 |n+1=>if p (L.getD n z) then ek p z L n else n+1
def insB {α:Type} (p:α->Bool) (z:α) (L:List α) (x:α):List α:=slid L x (ek p z L L.length)
theorem insIx_le {α:Type} (p:α->Bool) (z:α) (L:List α):∀n,ek p z L n<=n
 |0=>aa _
 |n+1=>by
  unfold ek
  split
  ·have:=insIx_le p z L n;omega
  ·exact aa _
theorem gi {α:Type} {p:α->Bool} {z:α} {L:List α} {n:Nat} (h:n=0∨∃q,n=q+1∧p (L.getD q z)=false):ek p z L n=n:=by
 rcases h with rfl|⟨q,rfl,h⟩
 ·rfl
 ·unfold ek;rw[h];rfl
theorem iL {α:Type} {p:α->Bool} {z:α} {L:List α} {q:Nat} (h:p (L.getD q z)=true):ek p z L (q+1)=ek p z L q:=by
 rw[ek,aN h]
theorem km {α:Type} (p:α->Bool) (z:α) (L:List α) (x:α):(insB p z L x).length=L.length+1:=eW _ _ _
def stepH (out:List Hd) (x:Hd):List Hd:=if out.any (λy=>y.s.eqb x.s)=true then out else insB (λy=>y.s.lt x.s) hd0 out x
def jN (l:List Hd):List Hd:=l.foldl stepH []
theorem stepH_len (a:List Hd) (x:Hd):(stepH a x).length<=a.length+1:=by
 unfold stepH;split
 ·omega
 ·rw[km];exact aa _
theorem eU {α β:Type} (f:β->α->β) (b:β) {l:List α} {k:Nat} (a:k<l.length) (z:α):(l.take (k+1)).foldl f b=f ((l.take k).foldl f b) (l.getD k z):=by
 rw[dQ a z,List.foldl_append];rfl
theorem sortH_len:∀(l:List Hd) (out:List Hd),(l.foldl stepH out).length<=out.length+l.length
 | [],out=>aa _
 |x::l,out=>by
  have h1:=sortH_len l (stepH out x)
  have h2:=stepH_len out x
  rw[ed,bQ];omega
theorem sortedh_any (L:List Hd) (A:Option Addr) (c:Nat) (S:Nat->Prop) (w:World) (hl:L.length<=100000) (hR:RowF w S A 4 hdL hd0 L):
  Calls Tryz.prog 166 #[.slice A L.length c] w λe w'=>∃A' c',e= .returned (.slice A' (jN L).length c')∧w'.ownsRow w.heap.size 224 4 (.slice A' (jN L).length c') (jN L).length ((jN L).flatMap hdL)∧Below w.heap.size w w':=by
 obtain⟨i0,hi,a3,a4,a5⟩:=bx info_hd;have HR:=hid hR;clear hR;go_enter Tryz.func166,Tryz.ntmps166;go_upto_region 3 with fail;go_loopw [3,4] (λo i wr=>∃(k:Nat) (A':Option Addr) (c' m:Nat) (M:List Hd),k<=L.length∧i= .int .i64 k∧o= .slice A' m c'∧m<=k∧Hid (m=M.length)∧Hid (M=jN (L.take k))∧Hid (wr.ownsRow w.heap.size 224 4 (.slice A' m c') m (M.flatMap hdL))∧Hid (Below w.heap.size w wr)) (λo i _=>L.length-(RowKit.intOf i).toNat)
 case atStart=>exact⟨0,none,0,0,[],aq _,rfl,rfl,aa _,hid rfl,hid rfl,hid (aH _ _ _ _),hid (ag _ _)⟩
 case round=>
  obtain⟨k,A',c',m,M,hk,rfl,rfl,bn,u,HM,HO,ah⟩:=hrel;by_cases aD:k<L.length
  ·have i1:(0:Int)<=(k:Int):=by omega
   have i2:(k:Int)<(L.length:Int):=by omega
   obtain⟨rb,ro,rfl,-,aF,R⟩:=HR.o.range (λ_=>rfl) aD;have aG:jN (L.take (k+1))=stepH M (L.getD k hd0):=by rw[HM.o];exact eU _ _ aD hd0
   generalize L.getD k hd0=p at *;obtain⟨⟨t,r⟩,⟨l,n⟩⟩:=p;have a6:=hid (λW (hB:Below w.heap.size w W)=>show W.rangeAt rb (ro+k*4) [.int .i64 t,.int .i64 r,.int .i64 l,.int .i64 n] from ct R aF hB);have aI:=hid aG;have a7:=ah.o.size;clear R aF aG;generalize wr=w0 at *;go_upto_region 7 with fail;go_loopw [5,6] (λh i wr=>∃(j:Nat) (b:Bool),j<=m∧i= .int .i64 j∧h= .bool b∧Hid (b=(M.take j).any (λy=>y.s.eqb ⟨t,r⟩))∧Hid (Below w0.heap.size w0 wr)) (λh i _=>m-(RowKit.intOf i).toNat)
   case atStart=>exact⟨0,false,aq _,rfl,rfl,hid rfl,hid (ag _ _)⟩
   case round=>
    obtain⟨j,b,hj,rfl,rfl,HB,J⟩:=hrel;have T:=hid (ah.o.trans (J.o.mono a7));have ai:=hid (a6.o wr T.o);have U:=kO HO J.o;by_cases aJ:j<m
    ·have j1:(0:Int)<=(j:Int):=by omega
     have j2:(j:Int)<(m:Int):=by omega
     obtain⟨g2,rfl,-,bo,al⟩:=cZ (f:=hdL) (λ_=>rfl) u.o U.o aJ hd0;have aL:(M.take (j+1)).any (λy=>y.s.eqb ⟨t,r⟩)=((M.take j).any (λy=>y.s.eqb ⟨t,r⟩) || (M.getD j hd0).s.eqb ⟨t,r⟩):=by rw[dQ (by rw[<-u.o];exact aJ) hd0,jx];simp
     generalize M.getD j hd0=y at *;obtain⟨⟨C,D⟩,⟨F,G⟩⟩:=y;obtain⟨Z,I⟩:∃b,b=Gst.eqb ⟨C,D⟩ ⟨t,r⟩:=⟨_,rfl⟩;have q1:=eq_st C D t r Z I.symm;have aM:=hid (show(M.take (j+1)).any (λy=>y.s.eqb ⟨t,r⟩)=(b || Z) by rw[aL,HB.o,I]);have y0:=aj (w:=wr) (a:=⟨g2,j*4,none⟩) (v:= .int .i64 C) (al 0 _ rfl);have y1:=aj (w:=wr) (a:=⟨g2,j*4+1,none⟩) (v:= .int .i64 D) (al 1 _ rfl);have x0:=aj (w:=wr) (a:=⟨rb,ro+k*4,none⟩) (v:= .int .i64 t) (ai.o 0 _ rfl);have x1:=aj (w:=wr) (a:=⟨rb,ro+k*4+1,none⟩) (v:= .int .i64 r) (ai.o 1 _ rfl);clear al I aL;cases b with
     |true=>
      go_upto_region 9 with fail;refine rqb ?_
      repeat(any_goals(first|go_big_quiet_step (fail)|quiet_step (fail)))
      refine qz λE s=> ?_;go_wp2;go_roundw
      case rel=>exact⟨j+1,true,by omega,by go_num,rfl,hid (by rw[aM.o];rfl),bT J s⟩
      case measure=>(simp[RowKit.intOf];omega)
     |false=>
      go_upto_region 9 with fail;refine rqb ?_
      repeat(any_goals(first|go_big_quiet_step (fail)|quiet_step (fail)))
      refine qz λE s=> ?_;go_wp2;go_roundw
      case rel=>exact⟨j+1,Z,by omega,by go_num,rfl,hid (by rw[aM.o];rfl),bT J s⟩
      case measure=>(simp[RowKit.intOf];omega)
    ·obtain rfl:j=m:=by omega
     have j2:¬(j:Int)<(j:Int):=by omega
     have Q:b=M.any (λy=>y.s.eqb ⟨t,r⟩):=by rw[HB.o,u.o,aO]
     cases b with
     |true=>
      have ac:=hid (show jN (L.take (k+1))=M by rw[aI.o];unfold stepH;rw[aN Q.symm]);clear Q;go_wp2;go_roundw
      case rel=>exact⟨k+1,A',c',j,M,by omega,by go_num,rfl,by omega,u,hid ac.o.symm,U,T⟩
      case measure=>(simp[RowKit.intOf];omega)
     | false=>
      have ac:=hid (show jN (L.take (k+1))=insB (λy=>y.s.lt ⟨t,r⟩) hd0 M ⟨⟨t,r⟩,⟨l,n⟩⟩ by rw[aI.o];unfold stepH;rw[aE (by rw[<-Q];decide)]);clear Q;go_upto_region 11 with fail;have aZ:=J.o.size;have am:=hid (show wr.rangeAt rb (ro+k*4) [.int .i64 t,.int .i64 r,.int .i64 l,.int .i64 n] from ai.o);have an:=T.o.size
      go_upto_region 13 with(first
       |(refine lM am iN ?_)
       |(at_builtin;refine cm _ rfl _ _ 157 rfl w.heap.size 224 i0 (.agg #[(0:Int),(0:Int),(0:Int),(0:Int)]) 4 32 Tryz.underlying157 hi a3 a4 a5 rfl (by decide) (.slice A' j c') j _ rfl (by exact U.o.alloc _) ⟨wr.heap.size,0,none⟩ 1 1 [.int .i64 t,.int .i64 r,.int .i64 l,.int .i64 n] rfl rfl (λj y h=>dH wr [.int .i64 t,.int .i64 r,.int .i64 l,.int .i64 n] 224 j y h) (fx (c:=#[.int .i64 t,.int .i64 r,.int .i64 l,.int .i64 n]) rfl) (by decide) (by unfold maxLen;omega) (by omega) (by simp;omega) (wr.heap.size+1) (by simp) ?_;intro g H w5 ao ad ha a0;have aQ:=hid ao;have a8:=hid ((T.o.alloc an _).grown ad (by simp;omega) (λb hb=>(U.o.lt b hb).1));clear ao ad ha a0))
      clear U J T HB aZ am an;have bm:j<=100000:=by omega
      have aR:slid M (⟨⟨t,r⟩,⟨l,n⟩⟩:Hd) j=M++[⟨⟨t,r⟩,⟨l,n⟩⟩]:=by rw[u.o];exact jB _ _
      have a9:=hid (show w5.ownsRow w.heap.size 224 4 (.slice (some ⟨g,0,none⟩) (j+1) H) (j+1) ((slid M (⟨⟨t,r⟩,⟨l,n⟩⟩:Hd) j).flatMap hdL) by rw[aR,aK];exact aQ.o);clear aR aQ;generalize w5=w6 at *;go_loopw [7] (λi wx=>∃(q:Nat),i= .int .i64 q∧q<=j∧Hid (ek (λy:Hd=>y.s.lt ⟨t,r⟩) hd0 M q=ek (λy:Hd=>y.s.lt ⟨t,r⟩) hd0 M M.length)∧Hid (wx.ownsRow w.heap.size 224 4 (.slice (some ⟨g,0,none⟩) (j+1) H) (j+1) ((slid M (⟨⟨t,r⟩,⟨l,n⟩⟩:Hd) q).flatMap hdL))∧Hid (Below w.heap.size w wx)) (λi _=>(RowKit.intOf i).toNat)
      case atStart=>exact⟨j,rfl,aa _,hid (by rw[u.o]),a9,a8⟩
      case round=>
       obtain⟨q,rfl,hq,ap,N,ar⟩:=hrel;by_cases h0:0<q
       ·obtain⟨q,rfl⟩:∃p,q=p+1:=⟨q-1,by omega⟩;have au:q+1<=M.length:=by rw[<-u.o];exact hq
        have ae:j+1=(slid M (⟨⟨t,r⟩,⟨l,n⟩⟩:Hd) (q+1)).length:=by rw[eW,<-u.o]
        obtain⟨g3,e3,-,aS,O⟩:=cZ (f:=hdL) (λ_=>rfl) ae N.o (k:=q) (by omega) hd0;cases e3;obtain⟨g4,e4,-,-,X⟩:=cZ (f:=hdL) (λ_=>rfl) ae N.o (k:=q+1) (by omega) hd0;cases e4;rw[jz au] at O;rw[kE au] at X;have av:=it (L:=M) (x:=(⟨⟨t,r⟩,⟨l,n⟩⟩:Hd)) (z:=hd0) au;obtain⟨y,hy⟩:∃y,y=M.getD q hd0:=⟨_,rfl⟩;rw[<-hy] at O av;obtain⟨Z,I⟩:∃b,b=(λy:Hd=>y.s.lt ⟨t,r⟩) y:=⟨_,rfl⟩;have aT:=hid (show(λy:Hd=>y.s.lt ⟨t,r⟩) (M.getD q hd0)=Z by rw[<-hy,I]);clear hy;obtain⟨⟨C,D⟩,⟨F,G⟩⟩:=y;have ba:=hid (show wr.rangeAt g (q*4) [.int .i64 C,.int .i64 D,.int .i64 F,.int .i64 G] from O);have bb:=hid (show wr.rangeAt g ((q+1)*4) [.int .i64 t,.int .i64 r,.int .i64 l,.int .i64 n] from X);have y0:=aj (w:=wr) (a:=⟨g,q*4,none⟩) (v:= .int .i64 C) (O 0 _ rfl);have y1:=aj (w:=wr) (a:=⟨g,q*4+1,none⟩) (v:= .int .i64 D) (O 1 _ rfl);have x0:=aj (w:=wr) (a:=⟨g,(q+1)*4,none⟩) (v:= .int .i64 t) (X 0 _ rfl);have x1:=aj (w:=wr) (a:=⟨g,(q+1)*4+1,none⟩) (v:= .int .i64 r) (X 1 _ rfl);have bc:=hid av;have k1:(0:Int)<(q:Int)+1:=by omega
        have k2:(0:Int)<=(q:Int):=by omega
        have k3:(q:Int)<(j:Int)+1:=by omega
        have k4:(q:Int)+1<(j:Int)+1:=by omega
        have k5:(0:Int)<=(q:Int)+1:=by omega
        have k6:IntKind.i64.wrap (q:Int)=(q:Int):=by rw[bH];omega
        have Y:=hid ae;have aU:=λW=>eV C D t r W;rw[show Gst.lt ⟨C,D⟩ ⟨t,r⟩=Z from I.symm] at aU;have cA:=λd os=>ak (aU (grow (redrawn wr d) os));clear O X I av ae;cases Z with
        |false=>
         go_upto_region 13 with fail;refine rqb ?_
         repeat(any_goals(first|go_big_quiet_step (with_reducible exact cA _ _)|quiet_step (with_reducible exact cA _ _)))
         refine qz λE s=> ?_;have aw:=hid (show jN (L.take (k+1))=slid M (⟨⟨t,r⟩,⟨l,n⟩⟩:Hd) (q+1) by rw[ac.o];unfold insB;rw[<-ap.o,gi (.inr ⟨q,rfl,aT.o⟩)]);have ax:=kO N s;have ay:=bT ar s;go_wp2;go_roundw
         case rel=>exact⟨k+1,some ⟨g,0,none⟩,H,j+1,_,by omega,by go_num,rfl,by omega,Y,hid aw.o.symm,ax,ay⟩
         case measure=>(simp[RowKit.intOf];omega)
        | true=>
         go_upto_region 13 with fail;refine rqb ?_
         repeat(any_goals(first|go_big_quiet_step (with_reducible exact cA _ _)|quiet_step (with_reducible exact cA _ _)))
         refine qz λE s=> ?_;have a1:=hid (show ek (λy:Hd=>y.s.lt ⟨t,r⟩) hd0 M q=ek (λy:Hd=>y.s.lt ⟨t,r⟩) hd0 M M.length by rw[<-ap.o,iL aT.o]);have az:=hid (ct ba.o aS s);have aA:=hid (ct bb.o aS s);have ab:=kO N s;have a2:=bT ar s;clear y0 y1 x0 x1 cA N s;go_upto_region 15 with fail;obtain⟨V1,aB⟩:∃V,V=E.drew.setCells g ((q+1)*4) (#[.int .i64 C,.int .i64 D,.int .i64 F,.int .i64 G]:Array Value).toList:=⟨_,rfl⟩;have P:V1.ownsRow w.heap.size 224 4 (.slice (some ⟨g,0,none⟩) (j+1) H) (j+1) (((slid M (⟨⟨t,r⟩,⟨l,n⟩⟩:Hd) (q+1)).set (q+1) (⟨⟨C,D⟩,⟨F,G⟩⟩:Hd)).flatMap hdL)∧E.drew.grownBy V1 (some g):=by rw[aB];exact eX (f:=hdL) (λ_=>rfl) (by decide) Y.o (show E.drew.ownsRow _ _ _ _ _ _ from ab.o) (by omega) (⟨⟨C,D⟩,⟨F,G⟩⟩:Hd)
         obtain⟨V2,aC⟩:∃V,V=V1.setCells g (q*4) (#[.int .i64 t,.int .i64 r,.int .i64 l,.int .i64 n]:Array Value).toList:=⟨_,rfl⟩;have af:V2.ownsRow w.heap.size 224 4 (.slice (some ⟨g,0,none⟩) (j+1) H) (j+1) ((((slid M (⟨⟨t,r⟩,⟨l,n⟩⟩:Hd) (q+1)).set (q+1) (⟨⟨C,D⟩,⟨F,G⟩⟩:Hd)).set q (⟨⟨t,r⟩,⟨l,n⟩⟩:Hd)).flatMap hdL)∧V1.grownBy V2 (some g):=by rw[aC];exact eX (f:=hdL) (λ_=>rfl) (by decide) (by rw[dj];exact Y.o) P.1 (by omega) (⟨⟨t,r⟩,⟨l,n⟩⟩:Hd)
         obtain⟨g5,e5,aV⟩:=eJ (show E.drew.ownsRow _ _ _ _ _ _ from ab.o) (k:=q+1) (by omega);cases e5;obtain⟨g6,e6,aW⟩:=eJ P.1 (k:=q) (by omega);cases e6;have bd:=hid af.1;have be:=hid (show E.heap.size<=V2.heap.size∧(Below w.heap.size w E->w.heap.size<=g->Below w.heap.size w V2) from⟨aP (show E.drew.heap.size<=V1.heap.size from P.2.size) af.2.size,λhb hl=>(hb.drew.grown P.2 (by exact hb.size) (λb e=>by cases e;exact hl)).grown af.2 (aP hb.size (show E.drew.heap.size<=V1.heap.size from P.2.size)) (λb e=>by cases e;exact hl)⟩);have bf:=hid aB;have bh:=hid aC;have bi:=hid aV;have bj:=hid aW;have bk:=hid (show(#[.int .i64 C,.int .i64 D,.int .i64 F,.int .i64 G]:Array Value).all (·.oneCell')=true by rw[<-cv];rfl);have bl:=hid (show(#[.int .i64 t,.int .i64 r,.int .i64 l,.int .i64 n]:Array Value).all (·.oneCell')=true by rw[<-cv];rfl);clear P af aB aC aV aW;refine aY (S:=λ_=>True) (by kernel_rfl) ?_
         try(change wpAnyH _ _ _ _ _ _ _ _ (World.drew _))
         refine tk 0 (.slice (some ⟨g,0,none⟩) (j+1) H) (trivial) ?_;go_simp;refine tk 1 (.int .i64 ((q:Int)+1)) (trivial) ?_;go_simp;refine tk 2 (.slice (some ⟨g,0,none⟩) (j+1) H) (trivial) ?_;go_simp;refine tk 3 (.int .i64 ((q:Int)+1)) (trivial) ?_;go_simp;refine tk 4 (.int .i64 (q:Int)) (trivial) ?_;go_simp;refine tk 5 (.slice (some ⟨g,0,none⟩) (j+1) H) (trivial) ?_;go_simp;refine tk 6 (.int .i64 ((q:Int)+1)) (trivial) ?_;go_simp;refine tk 7 (.int .i64 (q:Int)) (trivial) ?_;go_simp;refine tk 8 (.pointer (some ⟨g,q*4,none⟩)) (trivial) ?_;go_simp;refine tk 10 (.slice (some ⟨g,0,none⟩) (j+1) H) (trivial) ?_;go_simp;refine tk 11 (.int .i64 ((q:Int)+1)) (trivial) ?_;go_simp;refine tk 12 (.pointer (some ⟨g,(q+1)*4,none⟩)) (trivial) ?_;go_simp;refine dJ (rs:=[9,13]) (by kernel_rfl) (by simp) ?_;refine bg rfl (λK B=> ?_) (bg rfl (λK B=> ?_) dp)
         focus
          refine bI rfl _ _ rfl g (q*4) rfl [.int .i64 C,.int .i64 D,.int .i64 F,.int .i64 G] _ (show E.drew.rangeAt _ _ _ from az.o) iN rfl (by kernel_rfl) ?_;refine B.out _ _ (trivial) (λ_=> ?_);clear B K;refine rd1 13 λK B=> ?_;refine bI rfl _ _ rfl g ((q+1)*4) rfl [.int .i64 t,.int .i64 r,.int .i64 l,.int .i64 n] _ (show E.drew.rangeAt _ _ _ from aA.o) iN rfl (by kernel_rfl) ?_;refine B.out _ _ (trivial) (λ_=> ?_);clear B K
         rotate_left
         focus
          refine bI rfl _ _ rfl g ((q+1)*4) rfl [.int .i64 t,.int .i64 r,.int .i64 l,.int .i64 n] _ (show E.drew.rangeAt _ _ _ from aA.o) iN rfl (by kernel_rfl) ?_;refine B.out _ _ (trivial) (λ_=> ?_);clear B K;refine rd1 9 λK B=> ?_;refine bI rfl _ _ rfl g (q*4) rfl [.int .i64 C,.int .i64 D,.int .i64 F,.int .i64 G] _ (show E.drew.rangeAt _ _ _ from az.o) iN rfl (by kernel_rfl) ?_;refine B.out _ _ (trivial) (λ_=> ?_);clear B K
         all_goals
          refine tk 14 (.pointer (some ⟨g,(q+1)*4,none⟩)) (trivial) ?_;go_simp;refine rd1 15 λK B=> ?_;refine cY rfl _ _ _ rfl g ((q+1)*4) #[.int .i64 C,.int .i64 D,.int .i64 F,.int .i64 G] (by rfl) (by rfl) bi.o (by kernel_rfl) bk.o ?_;rw[<-bf.o];refine B.out _ _ (trivial) (λ_=> ?_);clear B K;refine tk 16 (.pointer (some ⟨g,q*4,none⟩)) (trivial) ?_;go_simp;refine rd1 17 λK B=> ?_;refine cY rfl _ _ _ rfl g (q*4) #[.int .i64 t,.int .i64 r,.int .i64 l,.int .i64 n] (by rfl) (by rfl) bj.o (by kernel_rfl) bl.o ?_;rw[<-bh.o];refine B.out _ _ (trivial) (λ_=> ?_);clear B K;refine bp (by kernel_rfl) ?_ _;go_simp;go_wp2;go_roundw
          case rel=>exact⟨q,by go_num,by omega,a1,hid (by rw[<-bc.o];exact bd.o),hid (be.o.2 a2.o (ab.o.lt g rfl).1)⟩
          case measure=>(simp[RowKit.intOf];try omega)
       ·obtain rfl:q=0:=by omega
        go_upto_region 13 with fail;refine rqb ?_
        repeat(any_goals(first|go_big_quiet_step (fail)|quiet_step (fail)))
        refine qz λE s=> ?_;have aw:=hid (show jN (L.take (k+1))=slid M (⟨⟨t,r⟩,⟨l,n⟩⟩:Hd) 0 by rw[ac.o];unfold insB;rw[<-ap.o];rfl);have Y:=hid (show j+1=(slid M (⟨⟨t,r⟩,⟨l,n⟩⟩:Hd) 0).length by rw[eW,<-u.o]);have ax:=kO N s;have ay:=bT ar s;go_wp2;go_roundw
        case rel=>exact⟨k+1,some ⟨g,0,none⟩,H,j+1,_,by omega,by go_num,rfl,by omega,Y,hid aw.o.symm,ax,ay⟩
        case measure=>(simp[RowKit.intOf];omega)
  ·obtain rfl:k=L.length:=by omega
   have i2:¬(L.length:Int)<(L.length:Int):=by omega
   have aX:=hid (show M=jN L by have h9:=HM.o;rw[aO] at h9;exact h9);go_wp2;go_ret;refine⟨A',c',by rw[<-aX.o,<-u.o];rfl,?_,ah.o⟩;rw[<-aX.o,<-u.o];exact HO.o
def stepT (out:List Told) (x:Told):List Told:=if out.any (λy=>y.a.eqb x.a)=true then out else insB (λy=>x.a.lt y.a) fI out x
def jM (l:List Told):List Told:=l.foldl stepT []
theorem stepT_len (a:List Told) (x:Told):(stepT a x).length<=a.length+1:=by
 unfold stepT;split
 ·omega
 ·rw[km];exact aa _
theorem sortT_len:∀(l:List Told) (out:List Told),(l.foldl stepT out).length<=out.length+l.length
 | [],out=>aa _
 |x::l,out=>by
  have h1:=sortT_len l (stepT out x)
  have h2:=stepT_len out x
  rw[ed,bQ];omega
theorem getD_mapF {α β:Type} (f:α->β) (L:List α) (k:Nat) (z:α):(L.map f).getD k (f z)=f (L.getD k z):=by
 rw[ae,ae,dW];cases L[k]? <;>rfl
theorem sortedt_any (L:List Told) (A A2:Option Addr) (c c2:Nat) (S S2:Nat->Prop) (w:World) (hl:L.length<=100000) (hR:RowF w S A 3 idL Gid.zero (L.map (·.a))) (a5:RowF w S2 A2 8 plcL plc0 (L.map (·.p))):
  Calls Tryz.prog 167 #[.slice A L.length c,.slice A2 L.length c2] w λe w'=>∃A' c',e= .returned (.slice A' (jM L).length c')∧w'.ownsRow w.heap.size 228 11 (.slice A' (jM L).length c') (jM L).length ((jM L).flatMap toldL)∧Below w.heap.size w w':=by
 obtain⟨i0,hi,bu,bv,aw⟩:=bx info_told;have HR:=hid hR;have bw:=hid a5;clear hR a5;go_enter Tryz.func167,Tryz.ntmps167;go_upto_region 3 with fail;go_loopw [5,6] (λo i wr=>∃(k:Nat) (A':Option Addr) (c' m:Nat) (M:List Told),k<=L.length∧i= .int .i64 k∧o= .slice A' m c'∧m<=k∧Hid (m=M.length)∧Hid (M=jM (L.take k))∧Hid (wr.ownsRow w.heap.size 228 11 (.slice A' m c') m (M.flatMap toldL))∧Hid (Below w.heap.size w wr)) (λo i _=>L.length-(RowKit.intOf i).toNat)
 case atStart=>exact⟨0,none,0,0,[],aq _,rfl,rfl,aa _,hid rfl,hid rfl,hid (aH _ _ _ _),hid (ag _ _)⟩
 case round=>
  obtain⟨k,A',c',m,M,hk,rfl,rfl,bR,O,HM,HO,aG⟩:=hrel;by_cases aI:k<L.length
  ·have i1:(0:Int)<=(k:Int):=by omega
   have i2:(k:Int)<(L.length:Int):=by omega
   obtain⟨rb,ro,rfl,-,a6,ad⟩:=HR.o.range (λ_=>rfl) (k:=k) (by rw[aV];exact aI);obtain⟨an,ao,rfl,-,aJ,ac⟩:=bw.o.range (λ_=>rfl) (k:=k) (by rw[aV];exact aI);rw[show(L.map (·.a)).getD k Gid.zero=(L.getD k fI).a from getD_mapF (·.a) L k fI] at ad;rw[show(L.map (·.p)).getD k plc0=(L.getD k fI).p from getD_mapF (·.p) L k fI] at ac;have a7:jM (L.take (k+1))=stepT M (L.getD k fI):=by rw[HM.o];exact eU _ _ aI fI
   generalize L.getD k fI=p at *;obtain⟨⟨⟨t,r⟩,n⟩,⟨⟨⟨l,s⟩,B⟩,⟨⟨C,D⟩,E⟩,F,G⟩⟩:=p;have I:=hid (λW (hB:Below w.heap.size w W)=>show W.rangeAt rb (ro+k*3) [.int .i64 t,.int .i64 r,.int .i64 n]∧W.rangeAt an (ao+k*8) [.int .i64 l,.int .i64 s,.int .i64 B,.int .i64 C,.int .i64 D,.int .i64 E,.string F,.bool G] from⟨ct ad a6 hB,ct ac aJ hB⟩);have a8:=hid a7;have bz:=aG.o.size;clear ad a6 a7 ac aJ;generalize wr=w0 at *;go_upto_region 7 with fail;go_loopw [7,8] (λh i wr=>∃(j:Nat) (b:Bool),j<=m∧i= .int .i64 j∧h= .bool b∧Hid (b=(M.take j).any (λy:Told=>y.a.eqb ⟨⟨t,r⟩,n⟩))∧Hid (Below w0.heap.size w0 wr)) (λh i _=>m-(RowKit.intOf i).toNat)
   case atStart=>exact⟨0,false,aq _,rfl,rfl,hid rfl,hid (ag _ _)⟩
   case round=>
    obtain⟨j,b,hj,rfl,rfl,HB,ap⟩:=hrel;have H:=hid (aG.o.trans (ap.o.mono bz));have ar:=kO HO ap.o;by_cases a9:j<m
    ·have j1:(0:Int)<=(j:Int):=by omega
     have j2:(j:Int)<(m:Int):=by omega
     obtain⟨g2,rfl,-,bS,ax⟩:=cZ (f:=toldL) (λ_=>rfl) O.o ar.o a9 fI;have ba:(M.take (j+1)).any (λy:Told=>y.a.eqb ⟨⟨t,r⟩,n⟩)=((M.take j).any (λy:Told=>y.a.eqb ⟨⟨t,r⟩,n⟩) || (λy:Told=>y.a.eqb ⟨⟨t,r⟩,n⟩) (M.getD j fI)):=by rw[dQ (by rw[<-O.o];exact a9) fI,jx];simp
     generalize M.getD j fI=y at *;obtain⟨⟨⟨t2,r2⟩,n2⟩,⟨⟨⟨P,Q⟩,R⟩,⟨⟨T,U⟩,X⟩,Y,Z⟩⟩:=y;obtain⟨b2,ae⟩:∃b,b=(λy:Told=>y.a.eqb ⟨⟨t,r⟩,n⟩) ⟨⟨⟨t2,r2⟩,n2⟩,⟨⟨⟨P,Q⟩,R⟩,⟨⟨T,U⟩,X⟩,Y,Z⟩⟩:=⟨_,rfl⟩;have q1:=eN t2 r2 n2 t r n b2 ae.symm;have bb:=hid (show(M.take (j+1)).any (λy:Told=>y.a.eqb ⟨⟨t,r⟩,n⟩)=(b || b2) by rw[ba,HB.o,ae]);have y0:=aj (w:=wr) (a:=⟨g2,j*11,none⟩) (v:= .int .i64 t2) (ax 0 _ rfl);have y1:=aj (w:=wr) (a:=⟨g2,j*11+1,none⟩) (v:= .int .i64 r2) (ax 1 _ rfl);have y2:=aj (w:=wr) (a:=⟨g2,j*11+2,none⟩) (v:= .int .i64 n2) (ax 2 _ rfl);have x0:=aj (w:=wr) (a:=⟨rb,ro+k*3,none⟩) (v:= .int .i64 t) ((I.o wr H.o).1 0 _ rfl);have x1:=aj (w:=wr) (a:=⟨rb,ro+k*3+1,none⟩) (v:= .int .i64 r) ((I.o wr H.o).1 1 _ rfl);have x2:=aj (w:=wr) (a:=⟨rb,ro+k*3+2,none⟩) (v:= .int .i64 n) ((I.o wr H.o).1 2 _ rfl);clear ax ae ba;cases b with
     |true=>
      go_upto_region 9 with fail;refine rqb ?_
      repeat(any_goals(first|go_big_quiet_step (fail)|quiet_step (fail)))
      refine qz λwq J=> ?_;go_wp2;go_roundw
      case rel=>exact⟨j+1,true,by omega,by go_num,rfl,hid (by rw[bb.o];rfl),bT ap J⟩
      case measure=>(simp[RowKit.intOf];omega)
     |false=>
      go_upto_region 9 with fail;refine rqb ?_
      repeat(any_goals(first|go_big_quiet_step (fail)|quiet_step (fail)))
      refine qz λwq J=> ?_;go_wp2;go_roundw
      case rel=>exact⟨j+1,b2,by omega,by go_num,rfl,hid (by rw[bb.o];rfl),bT ap J⟩
      case measure=>(simp[RowKit.intOf];omega)
    ·obtain rfl:j=m:=by omega
     have j2:¬(j:Int)<(j:Int):=by omega
     have am:b=M.any (λy:Told=>y.a.eqb ⟨⟨t,r⟩,n⟩):=by rw[HB.o,O.o,aO]
     cases b with
     |true=>
      have ay:=hid (show jM (L.take (k+1))=M by rw[a8.o];unfold stepT;rw[aN am.symm]);clear am;go_wp2;go_roundw
      case rel=>exact⟨k+1,A',c',j,M,by omega,by go_num,rfl,by omega,O,hid ay.o.symm,ar,H⟩
      case measure=>(simp[RowKit.intOf];omega)
     | false=>
      have ay:=hid (show jM (L.take (k+1))=insB (λy:Told=>Gid.lt ⟨⟨t,r⟩,n⟩ y.a) fI M ⟨⟨⟨t,r⟩,n⟩,⟨⟨⟨l,s⟩,B⟩,⟨⟨C,D⟩,E⟩,F,G⟩⟩ by rw[a8.o];unfold stepT;rw[aE (by rw[<-am];decide)]);clear am;have bq:=H.o.size;go_upto_region 11 with fail;refine aY (S:=λw'=>w'.rangeAt rb (ro+k*3) [.int .i64 t,.int .i64 r,.int .i64 n]∧w'.rangeAt an (ao+k*8) [.int .i64 l,.int .i64 s,.int .i64 B,.int .i64 C,.int .i64 D,.int .i64 E,.string F,.bool G]) (by kernel_rfl) ?_
      try(change wpAnyH _ _ _ _ _ _ _ _ (World.drew _))
      refine tk 0 (.slice A' j c') ((show wr.drew.rangeAt _ _ _∧wr.drew.rangeAt _ _ _ from I.o wr H.o)) ?_;go_simp;refine tk 1 (.slice (some ⟨rb,ro,none⟩) L.length c) ((show wr.drew.rangeAt _ _ _∧wr.drew.rangeAt _ _ _ from I.o wr H.o)) ?_;go_simp;refine tk 2 (.int .i64 (k:Int)) ((show wr.drew.rangeAt _ _ _∧wr.drew.rangeAt _ _ _ from I.o wr H.o)) ?_;go_simp;refine tk 3 (.pointer (some ⟨rb,ro+k*3,none⟩)) ((show wr.drew.rangeAt _ _ _∧wr.drew.rangeAt _ _ _ from I.o wr H.o)) ?_;go_simp;refine tk2 4 (.agg #[t,r,n]) rfl (bc (by rfl) _ _ rfl rb (ro+k*3) rfl [.int .i64 t,.int .i64 r,.int .i64 n] _ (λW' aL=>bC (pre:=[]) (mid:=[.int .i64 t,.int .i64 r,.int .i64 n]) (post:=[]) (aL.1)) az rfl (by kernel_rfl)) ((show wr.drew.rangeAt _ _ _∧wr.drew.rangeAt _ _ _ from I.o wr H.o)) ?_;go_simp;refine tk 5 (.slice (some ⟨an,ao,none⟩) L.length c2) ((show wr.drew.rangeAt _ _ _∧wr.drew.rangeAt _ _ _ from I.o wr H.o)) ?_;go_simp;refine tk 6 (.int .i64 (k:Int)) ((show wr.drew.rangeAt _ _ _∧wr.drew.rangeAt _ _ _ from I.o wr H.o)) ?_;go_simp;refine tk 7 (.pointer (some ⟨an,ao+k*8,none⟩)) ((show wr.drew.rangeAt _ _ _∧wr.drew.rangeAt _ _ _ from I.o wr H.o)) ?_;go_simp
      refine tk2 8 (.agg #[l,s,B,C,D,E,F,G]) rfl (bc (by rfl) _ _ rfl an (ao+k*8) rfl [.int .i64 l,.int .i64 s,.int .i64 B,.int .i64 C,.int .i64 D,.int .i64 E,.string F,.bool G] _ (λW' aL=>bC (pre:=[]) (mid:=[.int .i64 l,.int .i64 s,.int .i64 B,.int .i64 C,.int .i64 D,.int .i64 E,.string F,.bool G]) (post:=[]) (aL.2)) co rfl (by kernel_rfl)) ((show wr.drew.rangeAt _ _ _∧wr.drew.rangeAt _ _ _ from I.o wr H.o)) ?_;go_simp;refine tk 9 (.agg #[t,r,n,l,s,B,C,D,E,F,G]) ((show wr.drew.rangeAt _ _ _∧wr.drew.rangeAt _ _ _ from I.o wr H.o)) ?_;go_simp;have aA:(wr.alloc (.cells #[t,r,n,l,s,B,C,D,E,F,G] 228)).drew.heap.size=wr.heap.size+1:=by show(wr.alloc _).heap.size=_;simp
      have bd:=hid (ar.o.alloc (.cells #[t,r,n,l,s,B,C,D,E,F,G] 228));have be:=hid (λ(j:Nat) (y:Value) (h:([.int .i64 t,.int .i64 r,.int .i64 n,.int .i64 l,.int .i64 s,.int .i64 B,.int .i64 C,.int .i64 D,.int .i64 E,.string F,.bool G]:List Value)[j]? =some y)=>dH wr [.int .i64 t,.int .i64 r,.int .i64 n,.int .i64 l,.int .i64 s,.int .i64 B,.int .i64 C,.int .i64 D,.int .i64 E,.string F,.bool G] 228 j y h);have bf:=hid (show ∀u∈([.int .i64 t,.int .i64 r,.int .i64 n,.int .i64 l,.int .i64 s,.int .i64 B,.int .i64 C,.int .i64 D,.int .i64 E,.string F,.bool G]:List Value),u.oneCell'=true from fx (c:=#[.int .i64 t,.int .i64 r,.int .i64 n,.int .i64 l,.int .i64 s,.int .i64 B,.int .i64 C,.int .i64 D,.int .i64 E,.string F,.bool G]) rfl);have aM:=hid ((H.o.alloc H.o.size (.cells #[t,r,n,l,s,B,C,D,E,F,G] 228)).drew);refine rd1 10 λK N=> ?_;go_simp;refine N.out _ _ (I.o _ aM.o) (λ_=> ?_);clear N K;refine rd1 11 λK N=> ?_
      refine ds _ (by rfl) _ _ 225 (by rfl) w.heap.size 228 i0 (.agg #[(0:Int),(0:Int),(0:Int),(0:Int),(0:Int),(0:Int),(0:Int),(0:Int),(0:Int),.string ⟨#[]⟩,false]) 11 96 Tryz.underlying225 hi bu bv aw rfl (by decide) (.slice A' j c') j _ (by rfl) (by exact bd.o) ⟨wr.heap.size,0,none⟩ 1 1 [.int .i64 t,.int .i64 r,.int .i64 n,.int .i64 l,.int .i64 s,.int .i64 B,.int .i64 C,.int .i64 D,.int .i64 E,.string F,.bool G] (by rfl) (by rfl) (by exact be.o) bf.o (by decide) (by unfold maxLen;omega) (by omega) (by rw[aA];have:=H.o.size;omega) (wr.heap.size+1) aA ?_;intro g ab w5 aB aC bA br;have bh:=hid aB;have aQ:=hid (aM.o.grown aC (by rw[aA];have:=H.o.size;omega) (λb hb=>(ar.o.lt b hb).1));clear aB aC bA br;refine N.out _ _ (I.o _ aQ.o) (λ_=> ?_);clear N K;refine tk 12 (.slice (some ⟨g,0,none⟩) (j+1) ab) (I.o _ aQ.o) ?_;go_simp;refine bp (by kernel_rfl) ?_ _;go_simp;go_wp2;clear ar ap H HB bq aM bd be aA bf;have bQ:j<=100000:=by omega
      have bi:slid M (⟨⟨⟨t,r⟩,n⟩,⟨⟨⟨l,s⟩,B⟩,⟨⟨C,D⟩,E⟩,F,G⟩⟩:Told) j=M++[⟨⟨⟨t,r⟩,n⟩,⟨⟨⟨l,s⟩,B⟩,⟨⟨C,D⟩,E⟩,F,G⟩⟩]:=by rw[O.o];exact jB _ _
      have bB:=hid (show w5.ownsRow w.heap.size 228 11 (.slice (some ⟨g,0,none⟩) (j+1) ab) (j+1) ((slid M (⟨⟨⟨t,r⟩,n⟩,⟨⟨⟨l,s⟩,B⟩,⟨⟨C,D⟩,E⟩,F,G⟩⟩:Told) j).flatMap toldL) by rw[bi,aK];exact bh.o);clear bi bh;generalize w5=w6 at *;go_loopw [9] (λi wx=>∃(q:Nat),i= .int .i64 q∧q<=j∧Hid (ek (λy:Told=>Gid.lt ⟨⟨t,r⟩,n⟩ y.a) fI M q=ek (λy:Told=>Gid.lt ⟨⟨t,r⟩,n⟩ y.a) fI M M.length)∧Hid (wx.ownsRow w.heap.size 228 11 (.slice (some ⟨g,0,none⟩) (j+1) ab) (j+1) ((slid M (⟨⟨⟨t,r⟩,n⟩,⟨⟨⟨l,s⟩,B⟩,⟨⟨C,D⟩,E⟩,F,G⟩⟩:Told) q).flatMap toldL))∧Hid (Below w.heap.size w wx)) (λi _=>(RowKit.intOf i).toNat)
      case atStart=>exact⟨j,rfl,aa _,hid (by rw[O.o]),bB,aQ⟩
      case round=>
       obtain⟨q,rfl,hq,aR,ah,aS⟩:=hrel;by_cases h0:0<q
       ·obtain⟨q,rfl⟩:∃p,q=p+1:=⟨q-1,by omega⟩;have aT:q+1<=M.length:=by rw[<-O.o];exact hq
        have aD:j+1=(slid M (⟨⟨⟨t,r⟩,n⟩,⟨⟨⟨l,s⟩,B⟩,⟨⟨C,D⟩,E⟩,F,G⟩⟩:Told) (q+1)).length:=by rw[eW,<-O.o]
        obtain⟨g3,e3,-,bj,af⟩:=cZ (f:=toldL) (λ_=>rfl) aD ah.o (k:=q) (by omega) fI;cases e3;obtain⟨g4,e4,-,-,ai⟩:=cZ (f:=toldL) (λ_=>rfl) aD ah.o (k:=q+1) (by omega) fI;cases e4;rw[jz aT] at af;rw[kE aT] at ai;have aU:=it (L:=M) (x:=(⟨⟨⟨t,r⟩,n⟩,⟨⟨⟨l,s⟩,B⟩,⟨⟨C,D⟩,E⟩,F,G⟩⟩:Told)) (z:=fI) aT;obtain⟨y,hy⟩:∃y,y=M.getD q fI:=⟨_,rfl⟩;rw[<-hy] at af aU;obtain⟨b2,ae⟩:∃b,b=(λy:Told=>Gid.lt ⟨⟨t,r⟩,n⟩ y.a) y:=⟨_,rfl⟩;have bk:=hid (show(λy:Told=>Gid.lt ⟨⟨t,r⟩,n⟩ y.a) (M.getD q fI)=b2 by rw[<-hy,ae]);clear hy;obtain⟨⟨⟨t2,r2⟩,n2⟩,⟨⟨⟨P,Q⟩,R⟩,⟨⟨T,U⟩,X⟩,Y,Z⟩⟩:=y;have bD:=hid (show wr.rangeAt g (q*11) [.int .i64 t2,.int .i64 r2,.int .i64 n2,.int .i64 P,.int .i64 Q,.int .i64 R,.int .i64 T,.int .i64 U,.int .i64 X,.string Y,.bool Z] from af);have bE:=hid (show wr.rangeAt g ((q+1)*11) [.int .i64 t,.int .i64 r,.int .i64 n,.int .i64 l,.int .i64 s,.int .i64 B,.int .i64 C,.int .i64 D,.int .i64 E,.string F,.bool G] from ai);have y0:=aj (w:=wr) (a:=⟨g,q*11,none⟩) (v:= .int .i64 t2) (af 0 _ rfl);have y1:=aj (w:=wr) (a:=⟨g,q*11+1,none⟩) (v:= .int .i64 r2) (af 1 _ rfl);have y2:=aj (w:=wr) (a:=⟨g,q*11+2,none⟩) (v:= .int .i64 n2) (af 2 _ rfl);have x0:=aj (w:=wr) (a:=⟨g,(q+1)*11,none⟩) (v:= .int .i64 t) (ai 0 _ rfl);have x1:=aj (w:=wr) (a:=⟨g,(q+1)*11+1,none⟩) (v:= .int .i64 r) (ai 1 _ rfl)
        have x2:=aj (w:=wr) (a:=⟨g,(q+1)*11+2,none⟩) (v:= .int .i64 n) (ai 2 _ rfl);have bF:=hid aU;have k1:(0:Int)<(q:Int)+1:=by omega
        have k2:(0:Int)<=(q:Int):=by omega
        have k3:(q:Int)<(j:Int)+1:=by omega
        have k4:(q:Int)+1<(j:Int)+1:=by omega
        have k5:(0:Int)<=(q:Int)+1:=by omega
        have k6:IntKind.i64.wrap (q:Int)=(q:Int):=by rw[bH];omega
        have au:=hid aD;have bl:=λW=>gp t r n t2 r2 n2 W;obtain⟨zc,aW⟩:∃z,z=rcmpD ⟨⟨t,r⟩,n⟩ ⟨⟨t2,r2⟩,n2⟩:=⟨_,rfl⟩;rw[<-aW] at bl;have aw:decide (0<=zc)= !b2:=by rw[aW,j0,ae]
        have bU:decide (zc<0)=b2:=by cases b2<;>simp at aw ⊢ <;>omega
        clear aW aw;have cA:=λd os=>ak (bl (grow (redrawn wr d) os));clear af ai ae aU aD;cases b2 with
        |false=>
         go_upto_region 13 with fail;refine rqb ?_
         repeat(any_goals(first|go_big_quiet_step (with_reducible exact cA _ _)|quiet_step (with_reducible exact cA _ _)))
         refine qz λwq J=> ?_;have aX:=hid (show jM (L.take (k+1))=slid M (⟨⟨⟨t,r⟩,n⟩,⟨⟨⟨l,s⟩,B⟩,⟨⟨C,D⟩,E⟩,F,G⟩⟩:Told) (q+1) by rw[ay.o];unfold insB;rw[<-aR.o,gi (.inr ⟨q,rfl,bk.o⟩)]);have aZ:=kO ah J;have a0:=bT aS J;go_wp2;go_roundw
         case rel=>exact⟨k+1,some ⟨g,0,none⟩,ab,j+1,_,by omega,by go_num,rfl,by omega,au,hid aX.o.symm,aZ,a0⟩
         case measure=>(simp[RowKit.intOf];omega)
        | true=>
         go_upto_region 13 with fail;refine rqb ?_
         repeat(any_goals(first|go_big_quiet_step (with_reducible exact cA _ _)|quiet_step (with_reducible exact cA _ _)))
         refine qz λwq J=> ?_;have bs:=hid (show ek (λy:Told=>Gid.lt ⟨⟨t,r⟩,n⟩ y.a) fI M q=ek (λy:Told=>Gid.lt ⟨⟨t,r⟩,n⟩ y.a) fI M M.length by rw[<-aR.o,iL bk.o]);have a1:=hid (ct bD.o bj J);have a2:=hid (ct bE.o bj J);have av:=kO ah J;have bt:=bT aS J;clear y0 y1 y2 x0 x1 x2 cA ah J;go_upto_region 15 with fail;obtain⟨V1,a3⟩:∃V,V=wq.drew.setCells g ((q+1)*11) (#[.int .i64 t2,.int .i64 r2,.int .i64 n2,.int .i64 P,.int .i64 Q,.int .i64 R,.int .i64 T,.int .i64 U,.int .i64 X,.string Y,.bool Z]:Array Value).toList:=⟨_,rfl⟩;have al:V1.ownsRow w.heap.size 228 11 (.slice (some ⟨g,0,none⟩) (j+1) ab) (j+1) (((slid M (⟨⟨⟨t,r⟩,n⟩,⟨⟨⟨l,s⟩,B⟩,⟨⟨C,D⟩,E⟩,F,G⟩⟩:Told) (q+1)).set (q+1) (⟨⟨⟨t2,r2⟩,n2⟩,⟨⟨⟨P,Q⟩,R⟩,⟨⟨T,U⟩,X⟩,Y,Z⟩⟩:Told)).flatMap toldL)∧wq.drew.grownBy V1 (some g):=by rw[a3];exact eX (f:=toldL) (λ_=>rfl) (by decide) au.o (show wq.drew.ownsRow _ _ _ _ _ _ from av.o) (by omega) (⟨⟨⟨t2,r2⟩,n2⟩,⟨⟨⟨P,Q⟩,R⟩,⟨⟨T,U⟩,X⟩,Y,Z⟩⟩:Told)
         obtain⟨V2,a4⟩:∃V,V=V1.setCells g (q*11) (#[.int .i64 t,.int .i64 r,.int .i64 n,.int .i64 l,.int .i64 s,.int .i64 B,.int .i64 C,.int .i64 D,.int .i64 E,.string F,.bool G]:Array Value).toList:=⟨_,rfl⟩;have aF:V2.ownsRow w.heap.size 228 11 (.slice (some ⟨g,0,none⟩) (j+1) ab) (j+1) ((((slid M (⟨⟨⟨t,r⟩,n⟩,⟨⟨⟨l,s⟩,B⟩,⟨⟨C,D⟩,E⟩,F,G⟩⟩:Told) (q+1)).set (q+1) (⟨⟨⟨t2,r2⟩,n2⟩,⟨⟨⟨P,Q⟩,R⟩,⟨⟨T,U⟩,X⟩,Y,Z⟩⟩:Told)).set q (⟨⟨⟨t,r⟩,n⟩,⟨⟨⟨l,s⟩,B⟩,⟨⟨C,D⟩,E⟩,F,G⟩⟩:Told)).flatMap toldL)∧V1.grownBy V2 (some g):=by rw[a4];exact eX (f:=toldL) (λ_=>rfl) (by decide) (by rw[dj];exact au.o) al.1 (by omega) (⟨⟨⟨t,r⟩,n⟩,⟨⟨⟨l,s⟩,B⟩,⟨⟨C,D⟩,E⟩,F,G⟩⟩:Told)
         obtain⟨g5,e5,bm⟩:=eJ (show wq.drew.ownsRow _ _ _ _ _ _ from av.o) (k:=q+1) (by omega);cases e5;obtain⟨g6,e6,bn⟩:=eJ al.1 (k:=q) (by omega);cases e6;have bG:=hid aF.1;have bJ:=hid (show wq.heap.size<=V2.heap.size∧(Below w.heap.size w wq->w.heap.size<=g->Below w.heap.size w V2) from⟨aP (show wq.drew.heap.size<=V1.heap.size from al.2.size) aF.2.size,λhb hl=>(hb.drew.grown al.2 (by exact hb.size) (λb e=>by cases e;exact hl)).grown aF.2 (aP hb.size (show wq.drew.heap.size<=V1.heap.size from al.2.size)) (λb e=>by cases e;exact hl)⟩);have bK:=hid a3;have bL:=hid a4;have bM:=hid bm;have bN:=hid bn;have bO:=hid (show(#[.int .i64 t2,.int .i64 r2,.int .i64 n2,.int .i64 P,.int .i64 Q,.int .i64 R,.int .i64 T,.int .i64 U,.int .i64 X,.string Y,.bool Z]:Array Value).all (·.oneCell')=true by rw[<-cv];rfl);have bP:=hid (show(#[.int .i64 t,.int .i64 r,.int .i64 n,.int .i64 l,.int .i64 s,.int .i64 B,.int .i64 C,.int .i64 D,.int .i64 E,.string F,.bool G]:Array Value).all (·.oneCell')=true by rw[<-cv];rfl);clear al aF a3 a4 bm bn;refine aY (S:=λ_=>True) (by kernel_rfl) ?_
         try(change wpAnyH _ _ _ _ _ _ _ _ (World.drew _))
         refine tk 0 (.slice (some ⟨g,0,none⟩) (j+1) ab) (trivial) ?_;go_simp;refine tk 1 (.int .i64 ((q:Int)+1)) (trivial) ?_;go_simp;refine tk 2 (.slice (some ⟨g,0,none⟩) (j+1) ab) (trivial) ?_;go_simp;refine tk 3 (.int .i64 ((q:Int)+1)) (trivial) ?_;go_simp;refine tk 4 (.int .i64 (q:Int)) (trivial) ?_;go_simp;refine tk 5 (.slice (some ⟨g,0,none⟩) (j+1) ab) (trivial) ?_;go_simp;refine tk 6 (.int .i64 ((q:Int)+1)) (trivial) ?_;go_simp;refine tk 7 (.int .i64 (q:Int)) (trivial) ?_;go_simp;refine tk 8 (.pointer (some ⟨g,q*11,none⟩)) (trivial) ?_;go_simp;refine tk 10 (.slice (some ⟨g,0,none⟩) (j+1) ab) (trivial) ?_;go_simp;refine tk 11 (.int .i64 ((q:Int)+1)) (trivial) ?_;go_simp;refine tk 12 (.pointer (some ⟨g,(q+1)*11,none⟩)) (trivial) ?_;go_simp;refine dJ (rs:=[9,13]) (by kernel_rfl) (by simp) ?_;refine bg rfl (λK N=> ?_) (bg rfl (λK N=> ?_) dp)
         focus
          refine bI rfl _ _ rfl g (q*11) rfl [.int .i64 t2,.int .i64 r2,.int .i64 n2,.int .i64 P,.int .i64 Q,.int .i64 R,.int .i64 T,.int .i64 U,.int .i64 X,.string Y,.bool Z] _ (show wq.drew.rangeAt _ _ _ from a1.o) Tryz.underlying228 rfl (by kernel_rfl) ?_;refine N.out _ _ (trivial) (λ_=> ?_);clear N K;refine rd1 13 λK N=> ?_;refine bI rfl _ _ rfl g ((q+1)*11) rfl [.int .i64 t,.int .i64 r,.int .i64 n,.int .i64 l,.int .i64 s,.int .i64 B,.int .i64 C,.int .i64 D,.int .i64 E,.string F,.bool G] _ (show wq.drew.rangeAt _ _ _ from a2.o) Tryz.underlying228 rfl (by kernel_rfl) ?_;refine N.out _ _ (trivial) (λ_=> ?_);clear N K
         rotate_left
         focus
          refine bI rfl _ _ rfl g ((q+1)*11) rfl [.int .i64 t,.int .i64 r,.int .i64 n,.int .i64 l,.int .i64 s,.int .i64 B,.int .i64 C,.int .i64 D,.int .i64 E,.string F,.bool G] _ (show wq.drew.rangeAt _ _ _ from a2.o) Tryz.underlying228 rfl (by kernel_rfl) ?_;refine N.out _ _ (trivial) (λ_=> ?_);clear N K;refine rd1 9 λK N=> ?_;refine bI rfl _ _ rfl g (q*11) rfl [.int .i64 t2,.int .i64 r2,.int .i64 n2,.int .i64 P,.int .i64 Q,.int .i64 R,.int .i64 T,.int .i64 U,.int .i64 X,.string Y,.bool Z] _ (show wq.drew.rangeAt _ _ _ from a1.o) Tryz.underlying228 rfl (by kernel_rfl) ?_;refine N.out _ _ (trivial) (λ_=> ?_);clear N K
         all_goals
          refine tk 14 (.pointer (some ⟨g,(q+1)*11,none⟩)) (trivial) ?_;go_simp;refine rd1 15 λK N=> ?_;refine cY rfl _ _ _ rfl g ((q+1)*11) #[.int .i64 t2,.int .i64 r2,.int .i64 n2,.int .i64 P,.int .i64 Q,.int .i64 R,.int .i64 T,.int .i64 U,.int .i64 X,.string Y,.bool Z] (by rfl) (by rfl) bM.o (by kernel_rfl) bO.o ?_;rw[<-bK.o];refine N.out _ _ (trivial) (λ_=> ?_);clear N K;refine tk 16 (.pointer (some ⟨g,q*11,none⟩)) (trivial) ?_;go_simp;refine rd1 17 λK N=> ?_;refine cY rfl _ _ _ rfl g (q*11) #[.int .i64 t,.int .i64 r,.int .i64 n,.int .i64 l,.int .i64 s,.int .i64 B,.int .i64 C,.int .i64 D,.int .i64 E,.string F,.bool G] (by rfl) (by rfl) bN.o (by kernel_rfl) bP.o ?_;rw[<-bL.o];refine N.out _ _ (trivial) (λ_=> ?_);clear N K;refine bp (by kernel_rfl) ?_ _;go_simp;go_wp2;go_roundw
          case rel=>exact⟨q,by go_num,by omega,bs,hid (by rw[<-bF.o];exact bG.o),hid (bJ.o.2 bt.o (av.o.lt g rfl).1)⟩
          case measure=>(simp[RowKit.intOf];try omega)
       ·obtain rfl:q=0:=by omega
        go_upto_region 13 with fail;refine rqb ?_
        repeat(any_goals(first|go_big_quiet_step (fail)|quiet_step (fail)))
        refine qz λwq J=> ?_;have aX:=hid (show jM (L.take (k+1))=slid M (⟨⟨⟨t,r⟩,n⟩,⟨⟨⟨l,s⟩,B⟩,⟨⟨C,D⟩,E⟩,F,G⟩⟩:Told) 0 by rw[ay.o];unfold insB;rw[<-aR.o];rfl);have au:=hid (show j+1=(slid M (⟨⟨⟨t,r⟩,n⟩,⟨⟨⟨l,s⟩,B⟩,⟨⟨C,D⟩,E⟩,F,G⟩⟩:Told) 0).length by rw[eW,<-O.o]);have aZ:=kO ah J;have a0:=bT aS J;go_wp2;go_roundw
        case rel=>exact⟨k+1,some ⟨g,0,none⟩,ab,j+1,_,by omega,by go_num,rfl,by omega,au,hid aX.o.symm,aZ,a0⟩
        case measure=>(simp[RowKit.intOf];omega)
  ·obtain rfl:k=L.length:=by omega
   have i2:¬(L.length:Int)<(L.length:Int):=by omega
   have bo:=hid (show M=jM L by have h9:=HM.o;rw[aO] at h9;exact h9);go_wp2;go_ret;refine⟨A',c',by rw[<-bo.o,<-O.o];rfl,?_,aG.o⟩;rw[<-bo.o,<-O.o];exact HO.o
end
end Go.Proofs.YtkhmicndehlneaaGreatDoor
