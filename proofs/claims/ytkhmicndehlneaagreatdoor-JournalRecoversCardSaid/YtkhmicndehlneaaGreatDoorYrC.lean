/- Part 29 of the walks and plain laws that this claim uses, joined. Conditions: as each theorem states. -/
import Derived.Laws.Externs
import Derived.Lib.AppendStr
import Derived.Lib.OthersKept
import Derived.Lib.OwnKind
import Derived.Lib.UnsafeStr
import Derived.Test.YtkhmicndehlneaaGreatDoorYri
namespace Go.Proofs.YtkhmicndehlneaaGreatDoor
set_option maxRecDepth 100000
set_option maxHeartbeats 16000000
set_option linter.unusedVariables false
section
section
open Go.RowKit Go.Lib Go.Sort
theorem sizeBld:(Tryz.prog.info? 187).map (·.size)=some 2:=by kernel_rfl
theorem liesBld:liesAt Tryz.prog Tryz.prog.depth 189 (2 / Tryz.prog.cellsOf 189) 0 187 1=true:=by kernel_rfl
def Wrt (w:World) (B b:Nat) (l:List UInt8):Prop:=IsBuilder 189 5 B b (byteCells l) w
theorem copy_fresh (b:Nat) (w:World) (g:w.cell? ⟨b,0,none⟩=some (.pointer none)) (a:w.shape? b=some (189,2)) (f:w.frozen? ⟨b,0,none⟩=false):
  Calls Tryz.prog 180 #[.pointer (some ⟨b,0,none⟩)] w λe w'=>e= .returned (.tuple #[])∧w'=w.setCell ⟨b,0,none⟩ (.pointer (some ⟨b,0,none⟩)):=by
 obtain⟨j,c,d⟩:=Option.map_eq_some_iff.1 sizeBld;go_enter Tryz.func180,Tryz.ntmps180;go_wp2;rw[Lib.run_to_unsafe w ⟨b,0,none⟩ Tryz.underlying185 Tryz.underlying255 c (by rw[d];decide) a (Nat.zero_lt_succ 1)];simp only[Result.andThen];rw[Oper.upon_value];go_wp2;rw[run_callFunc_extern Tryz.func203 (by kernel_rfl) (by kernel_rfl) (by kernel_rfl) (e:=Extern.AbiNoEscape.same) (by kernel_rfl)];rw[Lib.run_noEscape];simp only[Result.andThen];rw[Oper.upon_value];go_wp2;rw[Lib.run_from_unsafe w ⟨b,0,none⟩ Tryz.underlying255 Tryz.underlying185 c a liesBld];simp only[Result.andThen];rw[Oper.upon_value];go_wp2;go_end0;exact⟨rfl,rfl⟩
theorem copy_used (b:Nat) (w:World) (d:w.cell? ⟨b,0,none⟩=some (.pointer (some ⟨b,0,none⟩))):
  Calls Tryz.prog 180 #[.pointer (some ⟨b,0,none⟩)] w λe w'=>e= .returned (.tuple #[])∧w'=w:=by
 obtain⟨j,a,c⟩:=Option.map_eq_some_iff.1 sizeBld;go_enter Tryz.func180,Tryz.ntmps180;go_wp2;rw[Lib.run_neq_ptr_same w _ Tryz.underlying185 a];go_wp2;go_end0;exact⟨rfl,rfl⟩
theorem copy_any (B b:Nat) (l:List UInt8) (w:World) (h:Wrt w B b l):
  Calls Tryz.prog 180 #[.pointer (some ⟨b,0,none⟩)] w λe w'=>e= .returned (.tuple #[])∧BuilderAt 189 5 B b (.pointer (some ⟨b,0,none⟩)) (byteCells l) w'∧Below B w w'∧OthersKept 5 (some b) w w':=by
 rcases h with h|h
 ·refine(copy_fresh b w h.cell0 h.shape h.frozen0).mono ?_;rintro e w' ⟨rfl,rfl⟩;exact⟨rfl,h.used _,(ag B w).setCell (p:=⟨b,0,none⟩) h.1 _,(OthersKept.refl _ _ w).setCell ⟨b,0,none⟩ rfl _⟩
 ·refine(copy_used b w h.cell0).mono ?_;rintro e w' ⟨rfl,rfl⟩;exact⟨rfl,h,ag B _,OthersKept.refl _ _ _⟩
theorem infoB8:(Tryz.prog.info? 5).map (λi=>(i.zero,i.size,i.bytes))=some (some (.int .u8 0),1,1):=by kernel_rfl
theorem strC (s:ByteArray):strCells s=byteCells s.data.toList:=rfl
theorem byteC_app (l m:List UInt8):byteCells l++byteCells m=byteCells (l++m):=by unfold byteCells;rw[bD]
def WrQ (B b:Nat) (l:List UInt8) (w:World) (w':World):Prop:=Wrt w' B b l∧Below B w w'∧OthersKept 5 (some b) w w'
theorem wstr_any (B b:Nat) (l:List UInt8) (s:ByteArray) (w:World) (h:Wrt w B b l) (G:l.length+s.size<=140737488355328) (N:B<=w.heap.size):
  Calls Tryz.prog 132 #[.pointer (some ⟨b,0,none⟩),s] w λe w'=>e= .returned (.tuple #[.int .i64 s.size,.nilIface])∧WrQ B b (l++s.data.toList) w w':=by
 obtain⟨H,I,q,r,t⟩:=bx infoB8;have u:(byteCells l).length=l.length:=byteCells_length l;go_enter Tryz.func132,Tryz.ntmps132;go_wp2_with (go_at_call 180;refine(copy_any B b l _ h).mono ?_);rintro e o ⟨rfl,J,j,x⟩;obtain⟨y,v,d,c,z⟩:=J;have O:o.cell? ⟨b,0,none⟩=some (.pointer (some ⟨b,0,none⟩)):=by rw[Lib.cell_of_heap d];rfl
 have P:o.cell? ⟨b,1,none⟩=some v:=by rw[Lib.cell_of_heap d];rfl
 go_wp2_with (at_builtin;refine Lib.wpList_append_own_string _ rfl _ _ 23 9 rfl B 5 H df fF I q r t _ _ _ rfl c s rfl ?c3 ?c4 ?c5 ?_)
 case c3=>unfold maxLen;omega
 case c4=>omega
 case c5=>have:=j.size;omega
 intro K n f a _;have A:b<o.heap.size:=lt_of_block d;have i:n.heap[b]? =some (.cells #[.pointer (some ⟨b,0,none⟩),v] 189 (0,0)):=by
  rw[a.block b A (λe=>z e.symm)];exact d
 have Q:n.cell? ⟨b,0,none⟩=some (.pointer (some ⟨b,0,none⟩)):=by rw[Lib.cell_of_heap i];rfl
 have R:n.cell? ⟨b,1,none⟩=some v:=by rw[Lib.cell_of_heap i];rfl
 have S:n.frozen? ⟨b,1,none⟩=false:=Lib.frozen_of_heap i 1;have C:=hid f;have D:=hid (x.grown a (Lib.ownsRowF_kind (World.ownsRowF_of c)));clear f;obtain⟨E,F,m,rfl⟩:∃E F m,K= .slice E F m:=by
  rcases C.o.2 with⟨hv,_⟩|⟨g,m,cur,hv,_⟩
  ·exact⟨_,_,_,hv⟩
  ·exact⟨_,_,_,hv⟩
 go_wp2;go_ret2;refine⟨rfl,.inr ?_,?_,?_⟩
 ·have L:l.length+s.size=(byteCells l++strCells s).length:=by rw[al,Lib.strCells_length,u]
  have:=Lib.BuilderAt.put (T:=189) (e:=5) y i (bs':=byteCells l++strCells s) (L ▸ C.o) (by decide);rw[strC,byteC_app] at this;exact this
 ·exact(j.grown a (by have:=j.size;omega) (λk M=>(c.lt k M).1)).setCell (p:=⟨b,1,none⟩) y _
 ·exact D.o.setCell ⟨b,1,none⟩ rfl _
theorem cells8:Tryz.prog.cellsOf 5=1:=by kernel_rfl
theorem wstring_any (B b:Nat) (l:List UInt8) (w:World) (h:Wrt w B b l) (i:l≠[]):
  Calls Tryz.prog 134 #[.pointer (some ⟨b,0,none⟩)] w λe w'=>e= .returned (.string ⟨l.toArray⟩)∧Below B w w':=by
 obtain⟨p,D,v,k,d,u⟩:∃p,BuilderAt 189 5 B b p (byteCells l) w:=by
  rcases h with h|h
  ·exact⟨_,h⟩
  ·exact⟨_,h⟩
 have f:l.length≠0:=by simpa using i
 rw[byteCells_length] at d;obtain⟨g,a,c,rfl,m,s,y,n,z,q⟩:∃g a c,v= .slice (some ⟨g,0,none⟩) l.length a∧B<=g∧w.heap[g]? =some (.cells c 5 (0,0))∧l.length<=a∧a<=maxLen∧c.size=a*1∧c.toList.take (l.length*1)=byteCells l:=by
  rcases d.2 with⟨_,hz⟩|⟨g,a,c,hv,r⟩
  ·exact absurd hz f
  ·exact⟨g,a,c,hv,r⟩
 have E:w.drew.cell? ⟨b,1,none⟩=some (.slice (some ⟨g,0,none⟩) l.length a):=by
  have:w.drew.heap[b]? =some (.cells #[p,.slice (some ⟨g,0,none⟩) l.length a] 189 (0,0)):=k;rw[cell_of_heap this];rfl
 have A:(Builtin.unsafeSliceData_ #[23] 242 #[.slice (some ⟨g,0,none⟩) l.length a]).run Tryz.prog w.drew= .ok (.pointer (some ⟨g,0,none⟩)) w.drew:=
  Lib.run_unsafeSliceData_row _ _ _ _ _ _ (by omega)
 have C:(Builtin.unsafeString_ #[242,3] 9 #[.pointer (some ⟨g,0,none⟩),.int .i64 l.length]).run Tryz.prog w.drew= .ok (.string ⟨l.toArray⟩) (w.drew.freeze ⟨g,0,none⟩ l.length):=by
  refine Lib.run_unsafeString_row w.drew 242 3 9 5 Tryz.underlying242 cells8 g c.size (by have o:w.drew.heap[g]? =some (.cells c 5 (0,0)):=s;simp[World.shape?,o]) l i (by omega) (by unfold maxLen at n;omega) ?_;intro j x t;have:=d.cells (g:=g) rfl j (.int .u8 x.toNat) (by simp[byteCells,t]);exact this
 clear f;go_enter Tryz.func134,Tryz.ntmps134;go_wp2;go_region
 all_goals(go_wp2;go_ret;exact⟨rfl,Lib.below_freeze (Below.drew (ag B w)) (p:=⟨g,0,none⟩) m _⟩)
section
variable {B b : Nat} {l m : List UInt8} {w w1 w2 : World}
theorem WrQ.trans (h:WrQ B b l w w1) (k:WrQ B b m w1 w2):WrQ B b m w w2:=⟨k.1,h.2.1.trans k.2.1,h.2.2.trans k.2.2⟩
theorem Wrt.pt (h:Wrt w B b l):B<=b∧b<w.heap.size:=by
 rcases h with h|h
 ·exact⟨h.1,h.lt⟩
 ·exact⟨h.1,h.lt⟩
theorem BuilderAt.alloc' {T e:TypeId} {p:Value} {a:List Value} (h:BuilderAt T e B b p a w) (o:Obj):BuilderAt T e B b p a (w.alloc o):=by
 have c:=BuilderAt.lt h;obtain⟨d,v,f,g,i⟩:=h;exact⟨d,v,(ax w o b c).trans f,g.alloc o,i⟩
theorem Wrt.alloc (h:Wrt w B b l) (o:Obj):Wrt (w.alloc o) B b l:=by
 rcases h with h|h
 ·exact .inl (BuilderAt.alloc' h o)
 ·exact .inr (BuilderAt.alloc' h o)
theorem BuilderAt.below' {T e:TypeId} {p:Value} {a:List Value} (h:BuilderAt T e B b p a w) (c:Below w.heap.size w w1):BuilderAt T e B b p a w1:=by
 have d:=BuilderAt.lt h;obtain⟨f,v,g,i,j⟩:=h;exact⟨f,v,(c.block b d).trans g,i.kept (row:=none) (dB c) (by cases k:v.ownBlock<;>simp),j⟩
theorem Wrt.below (h:Wrt w B b l) (a:Below w.heap.size w w1):Wrt w1 B b l:=by
 rcases h with h|h
 ·exact .inl (BuilderAt.below' h a)
 ·exact .inr (BuilderAt.below' h a)
theorem OthersKept.below' {e:TypeId} {bo:Option Nat} {a:World} (h:OthersKept e bo a w) (hb:Below w.heap.size w w1):OthersKept e bo a w1:=λk o hk hne ho=>by
 have h1:=h k o hk hne ho
 exact(hb.block k (lt_of_block h1)).trans h1
theorem WrQ.alloc (h:WrQ B b l w w1) (hB:B<=w1.heap.size) (o:Obj):WrQ B b l w (w1.alloc o):=⟨h.1.alloc o,h.2.1.alloc hB o,h.2.2.alloc o⟩
theorem WrQ.below (h:WrQ B b l w w1) (hb:Below w1.heap.size w1 w2):WrQ B b l w w2:=⟨h.1.below hb,h.2.1.trans (hb.mono (aP (aP h.1.pt.1 (Nat.le_of_lt h.1.pt.2)) (aa _))),OthersKept.below' h.2.2 hb⟩
theorem WrQ.refl (h:Wrt w B b l):WrQ B b l w w:=⟨h,ag _ _,OthersKept.refl _ _ _⟩
end
end
section
open Go.RowKit Go.Lib Go.Sort
theorem natv_any (x:Int) (h:x<9223372036854775808) (w:World):
  Calls Tryz.prog 179 #[x] w λe w'=>∃c:Int,e= .returned (.tuple #[.string ⟨(natZ x).toArray⟩,c])∧Below w.heap.size w w':=by
 by_cases a:0<=x
 ·refine(nat_ok x a h w).mono ?_;rintro e w' ⟨rfl,b⟩;exact⟨0,by rw[gH a];rfl,b⟩
 ·refine(nat_bad x (by omega) w).mono ?_;rintro e w' ⟨rfl,rfl⟩;refine⟨1,?_,ag _ _⟩;unfold natZ;rw[aN (by omega)]
def intsA (xs:List Int):Array Value:=(xs.map (Value.int .i64)).toArray
theorem fd (B b:Nat) (l:List UInt8) (g:Nat) (a:List Int) (u:Nat) (w:World) (v:∀x∈a,x<9223372036854775808) (L:l.length+10*a.length<=140737488355328) (M:a.length<=100) (s:Wrt w B b l) (A:w.heap[g]? =some (.cells (intsA a) 3 (0,0))) (C:g≠b):
  Calls Tryz.prog 131 #[.pointer (some ⟨b,0,none⟩),.slice (some ⟨g,0,none⟩) a.length u] w λe w'=>e= .returned (.tuple #[])∧WrQ B b (l++a.flatMap natZ) w w':=by
 have N:=hid (WrQ.refl s);have D:=hid v;have O:=hid A;have U:=s.pt;clear s v A;obtain⟨n,f⟩:∃n,n=a.length:=⟨_,rfl⟩;rw[<-f] at L M ⊢;have E:=hid f;clear f;go_enter Tryz.func131,Tryz.ntmps131;go_wp2;go_loopw [10] (λi wr=>∃k:Nat,k<=n∧i= .int .i64 k∧Hid (WrQ B b (l++(a.take k).flatMap natZ) w wr)) (λi _=>n-(RowKit.intOf i).toNat)
 case atStart=>exact⟨0,by omega,rfl,hid (by rw[iz,List.flatMap_nil,g8];exact N.o)⟩
 case round=>
  obtain⟨k,X,rfl,m⟩:=hrel;by_cases V:k<n
  ·have h:k<a.length:=by have:=E.o;omega
   have o:=m.o.2.2 g _ O.o (by intro e;cases e;exact C rfl) (by intro c Y e;injection e with _ e _;exact absurd e (by decide));obtain⟨x,d⟩:∃x,x=a[k]:=⟨_,rfl⟩;have Z:wr.cell? ⟨g,k,none⟩=some (.int .i64 x):=by
    rw[crw o,d];simp[intsA,h]
   have p:=D.o x (by rw[d];exact ch _);have W:(natZ x).length<=10:=dz p;have F:Hid ((⟨(natZ x).toArray⟩:ByteArray).size=(natZ x).length):=hid (by simp[ByteArray.size]);have G:(l++(a.take k).flatMap natZ).length<=l.length+10*k:=by
    have h1:=gJ (z:=natZ) (c:=10) (l:=a.take k) λy Q=>dz (D.o y (ew Q));have R:(a.take k).length<=k:=List.length_take_le _ _;have h3:10*(a.take k).length<=10*k:=iZ _ R;rw[al];omega
   have S:Hid ((l++(a.take k).flatMap natZ)++natZ x=l++(a.take (k+1)).flatMap natZ):=by
    show _=_;rw[cW h,aK,bJ,d,aM]
   have H:=natv_any x p;clear d o h;obtain⟨P,t⟩:∃P,P=l++(a.take k).flatMap natZ:=⟨_,rfl⟩;rw[<-t] at G;have I:=hid t;have J:=hid H;clear t H;go_wp2_with fail;refine(J.o _).mono ?_;rintro e T ⟨c,rfl,q⟩;have j:=hid ((show WrQ B b P w wr by rw[I.o];exact m.o).below q);clear q;go_wp2_with fail;refine(wstr_any B b P _ T j.o.1 (by rw[F.o];omega) (by have:=j.o.1.pt;omega)).mono ?_;rintro e w2 ⟨rfl,r⟩;have K:=hid (j.o.trans r);clear r;go_wp2;go_roundw
   case rel=>exact⟨k+1,by omega,by go_num,hid (by rw[<-S.o,<-I.o];exact K.o)⟩
   case measure=>simp[RowKit.intOf];omega
  ·obtain rfl:k=n:=by omega
   go_wp2;go_end0;exact⟨rfl,by rw[E.o,aO] at m;exact m⟩
theorem iF (B b:Nat) (l:List UInt8) (x:Gid) (w:World) (c:x.s.t<9223372036854775808∧x.s.r<9223372036854775808∧x.i<9223372036854775808) (m:l.length+30<=140737488355328) (a:Wrt w B b l):
  Calls Tryz.prog 181 #[.pointer (some ⟨b,0,none⟩),idV x] w λe w'=>e= .returned (.tuple #[])∧WrQ B b (l++idZ x) w w':=by
 obtain⟨⟨t,r⟩,i⟩:=x;show Calls _ _ #[.pointer (some ⟨b,0,none⟩),.agg #[t,r,i]] w _;have k:=a.pt;have d:=hid (((WrQ.refl a).alloc (by omega) (.cells #[t,r,i] 108)).alloc (by simp;omega) (.cells (intsA [t,r,i]) 3));have h:=hid (bu (n:=w.heap.size+1) (w.alloc (.cells #[t,r,i] 108)) (.cells (intsA [t,r,i]) 3) (by simp));have j:=hid c;clear a c;go_enter Tryz.func181,Tryz.ntmps181;go_wp2_with fail;refine(fd B b l (w.heap.size+1) [t,r,i] 3 _ (by have:=j.o;simp only[dh,fj,or_false];rintro x (rfl|rfl|rfl);exact this.1;exact this.2.1;exact this.2.2) (by simp;omega) (by simp) d.o.1 h.o (by omega)).mono ?_;rintro e w' ⟨rfl,f⟩;have g:=hid (d.o.trans f);clear f;go_wp2;go_end0;refine⟨rfl,?_⟩;have:=g.o;have e:idZ ⟨⟨t,r⟩,i⟩=[t,r,i].flatMap natZ:=by simp[idZ]
 rw[e];exact this
end
section
open Go.RowKit Go.Lib Go.Sort
attribute [local go_sem ↓] Go.wp_at_zero Go.wp_at_succ
theorem WrQ.obj {B b:Nat} {l:List UInt8} {w w1:World} {O:Nat} {c:Array Value} {T:TypeId} (h:WrQ B b l w w1) (ho:w.heap[O]? =some (.cells c T (0,0))) (hb:O≠b) (hT:T≠5):w1.heap[O]? =some (.cells c T (0,0)):=
 h.2.2 O _ ho (by intro e;cases e;exact hb rfl) (by intro c' fz e;injection e with _ e _;exact hT e)
theorem bytesv_any (t:ByteArray) (d:t.size<=1000000) (w:World):
  Calls Tryz.prog 135 #[t] w λe w'=>∃P:ByteArray,e= .returned (.string P)∧P.data.toList=gj t∧P.size<=1000010∧Below w.heap.size w w':=by
 refine(bytes1_any t (by omega) w).mono ?_;rintro e w' ⟨rfl,b⟩;have a:(putS t.size++t).data.toList=gj t:=by
  rw[ByteArray.data_append,Array.toList_append];rfl
 refine⟨_,rfl,a,?_,b⟩;have c:(putS t.size++t).size=(putS t.size++t).data.toList.length:=by simp
 have f:=eM (s:=t) (by omega);rw[c,a];omega
theorem okD.b {x:Gid} (h:okD x):x.s.t<9223372036854775808∧x.s.r<9223372036854775808∧x.i<9223372036854775808:=⟨h.1.1.2,h.1.2.2,h.2.2⟩
theorem wop_0 (B b:Nat) (l:List UInt8) (r t u v x A:Int) (a:ByteArray) (h:Bool) (g:List Gst) (i D E F G H:Int) (f:ByteArray) (d:List Gid) (xd:Option Addr) (O:Nat) (xe:Option Addr) (Q:Nat) (w:World)
  (aj:okO ⟨0,⟨⟨r,t⟩,u⟩,⟨⟨v,x⟩,A⟩,a,h,g,⟨⟨i,D⟩,E⟩,⟨⟨F,G⟩,H⟩,f,d⟩) (aN:g.length<=200) (aO:d.length<=2000) (ak:a.size<=1000000) (aP:f.size<=1000000) (hl:l.length+3000000<=140737488355328) (hW:Wrt w B b l) (ae:OpIn w (λk=>k<B) ⟨0,⟨⟨r,t⟩,u⟩,⟨⟨v,x⟩,A⟩,a,h,g,⟨⟨i,D⟩,E⟩,⟨⟨F,G⟩,H⟩,f,d⟩ ⟨xd,O,xe,Q⟩):
  Calls Tryz.prog 133 #[.pointer (some ⟨b,0,none⟩),.agg #[(0:Int),r,t,u,v,x,A,a,h,.slice xd g.length O,i,D,E,F,G,H,f,.slice xe d.length Q]] w λe w'=>e= .returned (.tuple #[])∧WrQ B b (l++opZ ⟨0,⟨⟨r,t⟩,u⟩,⟨⟨v,x⟩,A⟩,a,h,g,⟨⟨i,D⟩,E⟩,⟨⟨F,G⟩,H⟩,f,d⟩) w w':=by
 obtain⟨-,-,-,R,S,-,X,T,U,-,I⟩:=aj;simp only at R S X T U I;have aQ:=hW.pt;have aR:=hid ae;have Y:=hid ((WrQ.refl hW).alloc (by omega) (.cells #[(0:Int),r,t,u,v,x,A,a,h,.slice xd g.length O,i,D,E,F,G,H,f,.slice xe d.length Q] 125));have HA:=hid (an w (.cells #[(0:Int),r,t,u,v,x,A,a,h,.slice xd g.length O,i,D,E,F,G,H,f,.slice xe d.length Q] 125));have al:=hid R.b;have am:=hid S.b;have aS:=hid X;have aT:=hid T.b;have aU:=hid U.b;have aV:=hid I;have ao:=ep R;have ap:=ep S;have aq:=ep T;have au:=ep U;have aW:=eM (s:=a) (by omega);have aX:=eM (s:=f) (by omega);clear hW ae R S X T U I;obtain⟨q,J⟩:∃z,z=idZ ⟨⟨r,t⟩,u⟩:=⟨_,rfl⟩;obtain⟨K,L⟩:∃z,z=idZ ⟨⟨v,x⟩,A⟩:=⟨_,rfl⟩;obtain⟨z3,M⟩:∃z,z=idZ ⟨⟨i,D⟩,E⟩:=⟨_,rfl⟩;obtain⟨z4,N⟩:∃z,z=idZ ⟨⟨F,G⟩,H⟩:=⟨_,rfl⟩;rw[<-J] at ao;rw[<-L] at ap;rw[<-M] at aq;rw[<-N] at au;have Z:=hid J;have aa:=hid L;have aY:=hid M;have aZ:=hid N;clear J L M N;go_enter Tryz.func133,Tryz.ntmps133;have a0:(natZ 0).length<=10:=dz (by decide);go_wp2_with fail;have ab:=hid (Y.o.alloc (by have:=Y.o.1.pt;omega) (.cells #[(0:Int)] 3))
 refine(fd B b l (w.heap.size+1) [0] 1 _ (by intro y C;simp at C;subst C;decide) (by simp;omega) (by simp) (by exact ab.o.1) (by exact bu _ _ (by simp)) (by have:=Y.o.1.pt;omega)).mono ?_;rintro e y1 ⟨rfl,c⟩;have af:=hid (show WrQ B b (l++natZ 0) w y1 by have:=ab.o.trans (by exact c);simpa using this);have V:=hid (WrQ.obj c ((ax _ _ _ (lt_of_block HA.o)).trans HA.o) (by omega) (by decide));clear c ab;have az:=cw1 V.o;have aA:=cw2 V.o;have aB:=cw3 V.o;go_wp2_with fail;refine(iF B b (l++natZ 0) ⟨⟨r,t⟩,u⟩ _ al.o (by simp;omega) af.o.1).mono ?_;rintro e y2 ⟨rfl,c⟩;have ag:=hid (show WrQ B b ((l++natZ 0)++q) w y2 by have:=af.o.trans c;rw[<-Z.o] at this;exact this);have j:=hid (c.obj V.o (by omega) (by decide));clear c;have aC:=cw0 j.o;have aD:=cw9 j.o;have ay:=cw17 j.o;have aE:=cw4 j.o;have aF:=cw5 j.o;have aG:=cw6 j.o;go_wp2_with fail;refine(iF B b ((l++natZ 0)++q) ⟨⟨v,x⟩,A⟩ _ am.o (by simp;omega) ag.o.1).mono ?_;rintro e y3 ⟨rfl,c⟩;have av:=hid (show WrQ B b (((l++natZ 0)++q)++K) w y3 by have:=ag.o.trans c;rw[<-aa.o] at this;exact this);have W:=hid (c.obj j.o (by omega) (by decide));clear c;have aH:=cw7 W.o;have aI:=cw0 W.o;have aJ:=cw8 W.o;go_upto_region 7 with(fail)
 go_region_with (first
  |(go_at_call 135;refine(bytesv_any a ak _).mono ?_;rintro e v4 ⟨P,rfl,hP,a1,m⟩;have HP:=hid hP;have ac:=hid (av.o.below ⟨m.os,m.tape,m.output,m.size,m.block⟩);have ah:=bK m W;clear hP m)
  |(go_at_call 132;refine(wstr_any B b (((l++natZ 0)++q)++K) P _ (by exact ac.o.1) (by simp;omega) (by have:=ac.o.1.pt;omega)).mono ?_;rintro e y4 ⟨rfl,c⟩;have o:=hid (show WrQ B b ((((l++natZ 0)++q)++K)++gj a) w y4 by have:=ac.o.trans (by exact c);rw[HP.o] at this;exact this);have p:=hid (WrQ.obj c ah.o (by omega) (by decide));clear c))
 have aK:=cw0 p.o;have aL:=cw8 p.o;cases h with
 |false=>
  go_wp2_with fail;have n:=hid (o.o.alloc (by have:=o.o.1.pt;omega) (.cells #[(0:Int)] 3));refine(fd B b ((((l++natZ 0)++q)++K)++gj a) y4.heap.size [0] 1 _ (by intro y C;simp at C;subst C;decide) (by simp;omega) (by simp) (by exact n.o.1) (by exact bu _ _ (by simp)) (by have:=o.o.1.pt;omega)).mono ?_;rintro e y5 ⟨rfl,c⟩;have ad:=hid (show WrQ B b (((((l++natZ 0)++q)++K)++gj a)++natZ 0) w y5 by have:=n.o.trans (by exact c);simpa using this);have aw:=hid (WrQ.obj c ((ax _ _ _ (lt_of_block p.o)).trans p.o) (by omega) (by decide));clear c n;go_wp2;go_end0;refine⟨rfl,?_⟩;have:=ad.o;rw[Z.o,aa.o] at this;simpa[opZ,aM] using this
 |true=>
  go_wp2_with fail;have n:=hid (o.o.alloc (by have:=o.o.1.pt;omega) (.cells #[(1:Int)] 3));refine(fd B b ((((l++natZ 0)++q)++K)++gj a) y4.heap.size [1] 1 _ (by intro y C;simp at C;subst C;decide) (by simp;omega) (by simp) (by exact n.o.1) (by exact bu _ _ (by simp)) (by have:=o.o.1.pt;omega)).mono ?_;rintro e y5 ⟨rfl,c⟩;have ad:=hid (show WrQ B b (((((l++natZ 0)++q)++K)++gj a)++natZ 1) w y5 by have:=n.o.trans (by exact c);simpa using this);have aw:=hid (WrQ.obj c ((ax _ _ _ (lt_of_block p.o)).trans p.o) (by omega) (by decide));clear c n;go_wp2;go_end0;refine⟨rfl,?_⟩;have:=ad.o;rw[Z.o,aa.o] at this;simpa[opZ,aM] using this
theorem wop_1 (B b:Nat) (l:List UInt8) (n o p q r t:Int) (a:ByteArray) (m:Bool) (f:List Gst) (h u v x A C:Int) (d:ByteArray) (c:List Gid) (W:Option Addr) (I:Nat) (X:Option Addr) (J:Nat) (w:World)
  (af:okO ⟨1,⟨⟨n,o⟩,p⟩,⟨⟨q,r⟩,t⟩,a,m,f,⟨⟨h,u⟩,v⟩,⟨⟨x,A⟩,C⟩,d,c⟩) (aJ:f.length<=200) (aK:c.length<=2000) (ag:a.size<=1000000) (aL:d.size<=1000000) (hl:l.length+3000000<=140737488355328) (hW:Wrt w B b l) (Y:OpIn w (λk=>k<B) ⟨1,⟨⟨n,o⟩,p⟩,⟨⟨q,r⟩,t⟩,a,m,f,⟨⟨h,u⟩,v⟩,⟨⟨x,A⟩,C⟩,d,c⟩ ⟨W,I,X,J⟩):
  Calls Tryz.prog 133 #[.pointer (some ⟨b,0,none⟩),.agg #[(1:Int),n,o,p,q,r,t,a,m,.slice W f.length I,h,u,v,x,A,C,d,.slice X c.length J]] w λe w'=>e= .returned (.tuple #[])∧WrQ B b (l++opZ ⟨1,⟨⟨n,o⟩,p⟩,⟨⟨q,r⟩,t⟩,a,m,f,⟨⟨h,u⟩,v⟩,⟨⟨x,A⟩,C⟩,d,c⟩) w w':=by
 obtain⟨-,-,-,K,L,-,R,M,N,-,D⟩:=af;simp only at K L R M N D;have aN:=hW.pt;have aO:=hid Y;have S:=hid ((WrQ.refl hW).alloc (by omega) (.cells #[(1:Int),n,o,p,q,r,t,a,m,.slice W f.length I,h,u,v,x,A,C,d,.slice X c.length J] 125));have HA:=hid (an w (.cells #[(1:Int),n,o,p,q,r,t,a,m,.slice W f.length I,h,u,v,x,A,C,d,.slice X c.length J] 125));have ah:=hid K.b;have aj:=hid L.b;have aP:=hid R;have aQ:=hid M.b;have aR:=hid N.b;have aS:=hid D;have ak:=ep K;have al:=ep L;have am:=ep M;have ao:=ep N;have aT:=eM (s:=a) (by omega);have aU:=eM (s:=d) (by omega);clear hW Y K L R M N D;obtain⟨T,E⟩:∃z,z=idZ ⟨⟨n,o⟩,p⟩:=⟨_,rfl⟩;obtain⟨z2,F⟩:∃z,z=idZ ⟨⟨q,r⟩,t⟩:=⟨_,rfl⟩;obtain⟨z3,G⟩:∃z,z=idZ ⟨⟨h,u⟩,v⟩:=⟨_,rfl⟩;obtain⟨z4,H⟩:∃z,z=idZ ⟨⟨x,A⟩,C⟩:=⟨_,rfl⟩;rw[<-E] at ak;rw[<-F] at al;rw[<-G] at am;rw[<-H] at ao;have Z:=hid E;have aa:=hid F;have aV:=hid G;have aW:=hid H;clear E F G H;go_enter Tryz.func133,Tryz.ntmps133;have aX:(natZ 1).length<=10:=dz (by decide);go_wp2_with fail;have U:=hid (S.o.alloc (by have:=S.o.1.pt;omega) (.cells #[(1:Int)] 3))
 refine(fd B b l (w.heap.size+1) [1] 1 _ (by intro y hy;simp at hy;subst hy;decide) (by simp;omega) (by simp) (by exact U.o.1) (by exact bu _ _ (by simp)) (by have:=S.o.1.pt;omega)).mono ?_;rintro e y1 ⟨rfl,g⟩;have ab:=hid (show WrQ B b (l++natZ 1) w y1 by have:=U.o.trans (by exact g);simpa using this);have O:=hid (WrQ.obj g ((ax _ _ _ (lt_of_block HA.o)).trans HA.o) (by omega) (by decide));clear g U;have av:=cw1 O.o;have aw:=cw2 O.o;have ay:=cw3 O.o;go_wp2_with fail;refine(iF B b (l++natZ 1) ⟨⟨n,o⟩,p⟩ _ ah.o (by simp;omega) ab.o.1).mono ?_;rintro e y2 ⟨rfl,g⟩;have ac:=hid (show WrQ B b ((l++natZ 1)++T) w y2 by have:=ab.o.trans g;rw[<-Z.o] at this;exact this);have i:=hid (g.obj O.o (by omega) (by decide));clear g;have az:=cw0 i.o;have aA:=cw9 i.o;have au:=cw17 i.o;have aB:=cw4 i.o;have aC:=cw5 i.o;have aD:=cw6 i.o;go_wp2_with fail;refine(iF B b ((l++natZ 1)++T) ⟨⟨q,r⟩,t⟩ _ aj.o (by simp;omega) ac.o.1).mono ?_;rintro e y3 ⟨rfl,g⟩;have ap:=hid (show WrQ B b (((l++natZ 1)++T)++z2) w y3 by have:=ac.o.trans g;rw[<-aa.o] at this;exact this);have Q:=hid (g.obj i.o (by omega) (by decide));clear g;have aE:=cw7 Q.o;have aF:=cw0 Q.o;have aG:=cw8 Q.o;go_upto_region 7 with(fail)
 go_region_with (first
  |(go_at_call 135;refine(bytesv_any a ag _).mono ?_;rintro e v4 ⟨P,rfl,hP,aY,j⟩;have HP:=hid hP;have V:=hid (ap.o.below ⟨j.os,j.tape,j.output,j.size,j.block⟩);have ae:=bK j Q;clear hP j)
  |(go_at_call 132;refine(wstr_any B b (((l++natZ 1)++T)++z2) P _ (by exact V.o.1) (by simp;omega) (by have:=V.o.1.pt;omega)).mono ?_;rintro e y4 ⟨rfl,g⟩;have aq:=hid (show WrQ B b ((((l++natZ 1)++T)++z2)++gj a) w y4 by have:=V.o.trans (by exact g);rw[HP.o] at this;exact this);have ad:=hid (WrQ.obj g ae.o (by omega) (by decide));clear g))
 have aH:=cw0 ad.o;have aI:=cw8 ad.o;go_wp2;go_end0;refine⟨rfl,?_⟩;have:=aq.o;rw[Z.o,aa.o] at this;simpa[opZ,aM] using this
theorem wop_2 (B b:Nat) (l:List UInt8) (q r t v A C:Int) (f:ByteArray) (o:Bool) (a:List Gst) (m D E F G H:Int) (g:ByteArray) (d:List Gid) (xd:Option Addr) (O:Nat) (xe:Option Addr) (Q:Nat) (w:World)
  (ay:okO ⟨2,⟨⟨q,r⟩,t⟩,⟨⟨v,A⟩,C⟩,f,o,a,⟨⟨m,D⟩,E⟩,⟨⟨F,G⟩,H⟩,g,d⟩) (az:a.length<=200) (aY:d.length<=2000) (aZ:f.size<=1000000) (a0:g.size<=1000000) (hl:l.length+3000000<=140737488355328) (hW:Wrt w B b l) (aj:OpIn w (λk=>k<B) ⟨2,⟨⟨q,r⟩,t⟩,⟨⟨v,A⟩,C⟩,f,o,a,⟨⟨m,D⟩,E⟩,⟨⟨F,G⟩,H⟩,g,d⟩ ⟨xd,O,xe,Q⟩):
  Calls Tryz.prog 133 #[.pointer (some ⟨b,0,none⟩),.agg #[(2:Int),q,r,t,v,A,C,f,o,.slice xd a.length O,m,D,E,F,G,H,g,.slice xe d.length Q]] w λe w'=>e= .returned (.tuple #[])∧WrQ B b (l++opZ ⟨2,⟨⟨q,r⟩,t⟩,⟨⟨v,A⟩,C⟩,f,o,a,⟨⟨m,D⟩,E⟩,⟨⟨F,G⟩,H⟩,g,d⟩) w w':=by
 obtain⟨-,-,-,R,S,-,X,T,U,-,I⟩:=ay;simp only at R S X T U I;have a1:=hW.pt;have aA:=hid aj;have Y:=hid ((WrQ.refl hW).alloc (by omega) (.cells #[(2:Int),q,r,t,v,A,C,f,o,.slice xd a.length O,m,D,E,F,G,H,g,.slice xe d.length Q] 125));have HA:=hid (an w (.cells #[(2:Int),q,r,t,v,A,C,f,o,.slice xd a.length O,m,D,E,F,G,H,g,.slice xe d.length Q] 125));have aB:=hid R.b;have a2:=hid S.b;have ak:=hid X;have a3:=hid T.b;have a4:=hid U.b;have a5:=hid I;have aC:=ep R;have aD:=ep S;have aE:=ep T;have aF:=ep U;have a6:=eM (s:=f) (by omega);have a7:=eM (s:=g) (by omega);clear hW aj R S X T U I;obtain⟨z1,J⟩:∃z,z=idZ ⟨⟨q,r⟩,t⟩:=⟨_,rfl⟩;obtain⟨z2,K⟩:∃z,z=idZ ⟨⟨v,A⟩,C⟩:=⟨_,rfl⟩;obtain⟨z3,L⟩:∃z,z=idZ ⟨⟨m,D⟩,E⟩:=⟨_,rfl⟩;obtain⟨z4,M⟩:∃z,z=idZ ⟨⟨F,G⟩,H⟩:=⟨_,rfl⟩;rw[<-J] at aC;rw[<-K] at aD;rw[<-L] at aE;rw[<-M] at aF;have am:=hid J;have a8:=hid K;have a9:=hid L;have ba:=hid M;clear J K L M;go_enter Tryz.func133,Tryz.ntmps133;have aG:(natZ 2).length<=10:=dz (by decide);go_wp2_with fail;have Z:=hid (Y.o.alloc (by have:=Y.o.1.pt;omega) (.cells #[(2:Int)] 3))
 refine(fd B b l (w.heap.size+1) [2] 1 _ (by intro y N;simp at N;subst N;decide) (by simp;omega) (by simp) (by exact Z.o.1) (by exact bu _ _ (by simp)) (by have:=Y.o.1.pt;omega)).mono ?_;rintro e y1 ⟨rfl,h⟩;have ap:=hid (show WrQ B b (l++natZ 2) w y1 by have:=Z.o.trans (by exact h);simpa using this);have V:=hid (WrQ.obj h ((ax _ _ _ (lt_of_block HA.o)).trans HA.o) (by omega) (by decide));clear h Z;have aS:=cw1 V.o;have aT:=cw2 V.o;have aU:=cw3 V.o;go_wp2_with fail;refine(iF B b (l++natZ 2) ⟨⟨q,r⟩,t⟩ _ aB.o (by simp;omega) ap.o.1).mono ?_;rintro e y2 ⟨rfl,h⟩;have aa:=hid (show WrQ B b ((l++natZ 2)++z1) w y2 by have:=ap.o.trans h;rw[<-am.o] at this;exact this);have u:=hid (h.obj V.o (by omega) (by decide));clear h;have aV:=cw0 u.o;have aW:=cw9 u.o;have aQ:=cw17 u.o;go_wp2_with fail;have ac:=hid (aa.o.alloc (by have:=aa.o.1.pt;omega) (.cells #[(a.length:Int)] 3));refine(fd B b ((l++natZ 2)++z1) y2.heap.size [(a.length:Int)] 1 _ (by intro y N;simp at N;subst N;omega) (by simp;omega) (by simp) (by exact ac.o.1) (by exact bu _ _ (by simp)) (by have:=aa.o.1.pt;omega)).mono ?_;rintro e y3 ⟨rfl,h⟩;have aH:=hid (show WrQ B b (((l++natZ 2)++z1)++natZ a.length) w y3 by have:=ac.o.trans (by exact h);simpa using this)
 have ad:=hid (WrQ.obj h ((ax _ _ _ (lt_of_block u.o)).trans u.o) (by omega) (by decide));clear h ac;have av:=cw9 ad.o;have aR:=cw17 ad.o;have aX:=cw0 ad.o;have aI:(natZ (a.length:Int)).length<=10:=dz (by omega);obtain⟨n,hn⟩:∃n,n=a.length:=⟨_,rfl⟩;obtain⟨P,hP⟩:∃P,P=(((l++natZ 2)++z1)++natZ a.length):=⟨_,rfl⟩;have bb:P.length<=l.length+50:=by rw[hP];simp;omega
 have HP:=hid hP;have HN:=hid hn;clear hP;rw[<-hn] at az av;clear hn aI aG;have aJ:=hid (show WrQ B b P w y3 by rw[HP.o];exact aH.o);have hN:(a.length:Int)=(n:Int):=by rw[HN.o]
 try rw[hN]
 clear hN;go_upto_region 16 with(fail);go_loopw [54] (λi wr=>∃j:Nat,j<=n∧i= .int .i64 j∧Hid (WrQ B b (P++(a.take j).flatMap stZ) w wr)) (λi _=>n-(RowKit.intOf i).toNat)
 case atStart=>exact⟨0,by omega,rfl,hid (by rw[iz,List.flatMap_nil,g8];exact aJ.o)⟩
 case round=>
  obtain⟨j,hj,rfl,HR⟩:=hrel;by_cases bc:j<n
  ·have p:j<a.length:=by have:=HN.o;omega
   obtain⟨ab,ao,rfl,-,bd,d0,d1⟩:=StsS.at_ (RowG.agr aA.o.dots ⟨HR.o.2.1.size,λk hk _=>HR.o.2.1.block k hk⟩) (k:=j) p;obtain⟨x,hx⟩:∃x,x=a.getD j .zero:=⟨_,rfl⟩;simp only[<-hx] at d0 d1;have aq:x∈a:=by rw[hx,ae,aw p];exact ch p
   have af:=ak.o.2 x aq;have HT:=hid (show(P++(a.take j).flatMap stZ)++stZ x=P++(a.take (j+1)).flatMap stZ by rw[cW p,aK,bJ,hx,ae,aw p,aM];rfl);have aL:(P++(a.take j).flatMap stZ).length<=P.length+20*n:=by
    have h1:=gJ (z:=stZ) (c:=20) (l:=a.take j) λy N=>stZ_le (ak.o.2 y (ew N));have h2:(a.take j).length<=n:=by have:=List.length_take_le j a;omega
    have h3:20*(a.take j).length<=20*n:=iZ _ h2;rw[al];omega
   have ag:x.t<9223372036854775808∧x.r<9223372036854775808:=⟨af.1.2,af.2.2⟩;obtain⟨xt,xr⟩:=x;simp only at d0 d1 ag;obtain⟨P2,ah⟩:∃P2,P2=P++(a.take j).flatMap stZ:=⟨_,rfl⟩;rw[<-ah] at aL;have au:=hid ah;have aN:=hid ag;clear ah hx aq af p ag;have W:=hid (show WrQ B b P2 w wr by rw[au.o];exact HR.o);have HK:=hid ((W.o.alloc (by have:=W.o.1.pt;omega) (.cells #[xt,xr] 42)).alloc (by have:=W.o.1.pt;simp;omega) (.cells (intsA [xt,xr]) 3));go_wp2_with fail;refine(fd B b P2 (wr.heap.size+1) [xt,xr] 2 _ (by have:=aN.o;simp only[dh,fj,or_false];rintro x (rfl|rfl);exact this.1;exact this.2) (by simp;omega) (by simp) HK.o.1 (bu _ _ (by simp)) (by have:=W.o.1.pt;omega)).mono ?_;rintro e w3 ⟨rfl,h⟩;have aP:=hid (show WrQ B b (P2++stZ ⟨xt,xr⟩) w w3 by have:=HK.o.trans h;simpa[stZ] using this);clear h;go_wp2;go_roundw
   case rel=>exact⟨j+1,by omega,by go_num,hid (by rw[<-HT.o,<-au.o];exact aP.o)⟩
   case measure=>simp[RowKit.intOf];omega
  ·obtain rfl:j=n:=by omega
   go_wp2;go_end0;refine⟨rfl,?_⟩;have:=HR.o;rw[HN.o,aO,HP.o,am.o] at this;simpa[opZ,aM] using this
theorem wop_3 (B b:Nat) (l:List UInt8) (n o p x A C:Int) (f:ByteArray) (m:Bool) (g:List Gst) (h q r t u v:Int) (a:ByteArray) (c:List Gid) (X:Option Addr) (J:Nat) (Y:Option Addr) (K:Nat) (w:World)
  (aj:okO ⟨3,⟨⟨n,o⟩,p⟩,⟨⟨x,A⟩,C⟩,f,m,g,⟨⟨h,q⟩,r⟩,⟨⟨t,u⟩,v⟩,a,c⟩) (aP:g.length<=200) (aQ:c.length<=2000) (aR:f.size<=1000000) (ak:a.size<=1000000) (hl:l.length+3000000<=140737488355328) (hW:Wrt w B b l) (Z:OpIn w (λk=>k<B) ⟨3,⟨⟨n,o⟩,p⟩,⟨⟨x,A⟩,C⟩,f,m,g,⟨⟨h,q⟩,r⟩,⟨⟨t,u⟩,v⟩,a,c⟩ ⟨X,J,Y,K⟩):
  Calls Tryz.prog 133 #[.pointer (some ⟨b,0,none⟩),.agg #[(3:Int),n,o,p,x,A,C,f,m,.slice X g.length J,h,q,r,t,u,v,a,.slice Y c.length K]] w λe w'=>e= .returned (.tuple #[])∧WrQ B b (l++opZ ⟨3,⟨⟨n,o⟩,p⟩,⟨⟨x,A⟩,C⟩,f,m,g,⟨⟨h,q⟩,r⟩,⟨⟨t,u⟩,v⟩,a,c⟩) w w':=by
 obtain⟨-,-,-,L,M,-,S,N,O,-,D⟩:=aj;simp only at L M S N O D;have aS:=hW.pt;have aT:=hid Z;have T:=hid ((WrQ.refl hW).alloc (by omega) (.cells #[(3:Int),n,o,p,x,A,C,f,m,.slice X g.length J,h,q,r,t,u,v,a,.slice Y c.length K] 125));have HA:=hid (an w (.cells #[(3:Int),n,o,p,x,A,C,f,m,.slice X g.length J,h,q,r,t,u,v,a,.slice Y c.length K] 125));have al:=hid L.b;have aU:=hid M.b;have aV:=hid S;have am:=hid N.b;have ao:=hid O.b;have aW:=hid D;have ap:=ep L;have aq:=ep M;have au:=ep N;have av:=ep O;have aX:=eM (s:=f) (by omega);have aY:=eM (s:=a) (by omega);clear hW Z L M S N O D;obtain⟨E,F⟩:∃z,z=idZ ⟨⟨n,o⟩,p⟩:=⟨_,rfl⟩;obtain⟨z2,G⟩:∃z,z=idZ ⟨⟨x,A⟩,C⟩:=⟨_,rfl⟩;obtain⟨U,H⟩:∃z,z=idZ ⟨⟨h,q⟩,r⟩:=⟨_,rfl⟩;obtain⟨z4,I⟩:∃z,z=idZ ⟨⟨t,u⟩,v⟩:=⟨_,rfl⟩;rw[<-F] at ap;rw[<-G] at aq;rw[<-H] at au;rw[<-I] at av;have aa:=hid F;have aZ:=hid G;have ab:=hid H;have ac:=hid I;clear F G H I;go_enter Tryz.func133,Tryz.ntmps133;have a0:(natZ 3).length<=10:=dz (by decide);go_wp2_with fail;have V:=hid (T.o.alloc (by have:=T.o.1.pt;omega) (.cells #[(3:Int)] 3))
 refine(fd B b l (w.heap.size+1) [3] 1 _ (by intro y hy;simp at hy;subst hy;decide) (by simp;omega) (by simp) (by exact V.o.1) (by exact bu _ _ (by simp)) (by have:=T.o.1.pt;omega)).mono ?_;rintro e y1 ⟨rfl,d⟩;have ad:=hid (show WrQ B b (l++natZ 3) w y1 by have:=V.o.trans (by exact d);simpa using this);have Q:=hid (WrQ.obj d ((ax _ _ _ (lt_of_block HA.o)).trans HA.o) (by omega) (by decide));clear d V;have aI:=cw1 Q.o;have aJ:=cw2 Q.o;have aK:=cw3 Q.o;go_wp2_with fail;refine(iF B b (l++natZ 3) ⟨⟨n,o⟩,p⟩ _ al.o (by simp;omega) ad.o.1).mono ?_;rintro e y2 ⟨rfl,d⟩;have ae:=hid (show WrQ B b ((l++natZ 3)++E) w y2 by have:=ad.o.trans d;rw[<-aa.o] at this;exact this);have i:=hid (d.obj Q.o (by omega) (by decide));clear d;have aL:=cw0 i.o;have aN:=cw9 i.o;have aA:=cw17 i.o;have aB:=cw10 i.o;have aC:=cw11 i.o;have aD:=cw12 i.o;go_wp2_with fail;refine(iF B b ((l++natZ 3)++E) ⟨⟨h,q⟩,r⟩ _ am.o (by simp;omega) ae.o.1).mono ?_;rintro e y3 ⟨rfl,d⟩;have af:=hid (show WrQ B b (((l++natZ 3)++E)++U) w y3 by have:=ae.o.trans d;rw[<-ab.o] at this;exact this);have R:=hid (d.obj i.o (by omega) (by decide));clear d;have aE:=cw13 R.o;have aF:=cw14 R.o;have aG:=cw15 R.o;go_wp2_with fail;refine(iF B b (((l++natZ 3)++E)++U) ⟨⟨t,u⟩,v⟩ _ ao.o (by simp;omega) af.o.1).mono ?_
 rintro e y4 ⟨rfl,d⟩;have aw:=hid (show WrQ B b ((((l++natZ 3)++E)++U)++z4) w y4 by have:=af.o.trans d;rw[<-ac.o] at this;exact this);have ag:=hid (d.obj R.o (by omega) (by decide));clear d;have aH:=cw16 ag.o;go_upto_region 23 with(fail)
 go_region_with (first
  |(go_at_call 135;refine(bytesv_any a ak _).mono ?_;rintro e v5 ⟨P,rfl,hP,a1,j⟩;have HP:=hid hP;have W:=hid (aw.o.below ⟨j.os,j.tape,j.output,j.size,j.block⟩);have ah:=bK j ag;clear hP j)
  |(go_at_call 132;refine(wstr_any B b ((((l++natZ 3)++E)++U)++z4) P _ (by exact W.o.1) (by simp;omega) (by have:=W.o.1.pt;omega)).mono ?_;rintro e y5 ⟨rfl,d⟩;have ay:=hid (show WrQ B b (((((l++natZ 3)++E)++U)++z4)++gj a) w y5 by have:=W.o.trans (by exact d);rw[HP.o] at this;exact this);have az:=hid (WrQ.obj d ah.o (by omega) (by decide));clear d))
 have aO:=cw0 az.o;go_wp2;go_end0;refine⟨rfl,?_⟩;have:=ay.o;rw[aa.o,ab.o,ac.o] at this;simpa[opZ,aM] using this
theorem wop_4 (B b:Nat) (l:List UInt8) (q r t v A C:Int) (d:ByteArray) (o:Bool) (g:List Gst) (m D E F G H:Int) (f:ByteArray) (a:List Gid) (xd:Option Addr) (O:Nat) (xe:Option Addr) (Q:Nat) (w:World)
  (ay:okO ⟨4,⟨⟨q,r⟩,t⟩,⟨⟨v,A⟩,C⟩,d,o,g,⟨⟨m,D⟩,E⟩,⟨⟨F,G⟩,H⟩,f,a⟩) (aY:g.length<=200) (az:a.length<=2000) (aZ:d.size<=1000000) (a0:f.size<=1000000) (hl:l.length+3000000<=140737488355328) (hW:Wrt w B b l) (ah:OpIn w (λk=>k<B) ⟨4,⟨⟨q,r⟩,t⟩,⟨⟨v,A⟩,C⟩,d,o,g,⟨⟨m,D⟩,E⟩,⟨⟨F,G⟩,H⟩,f,a⟩ ⟨xd,O,xe,Q⟩):
  Calls Tryz.prog 133 #[.pointer (some ⟨b,0,none⟩),.agg #[(4:Int),q,r,t,v,A,C,d,o,.slice xd g.length O,m,D,E,F,G,H,f,.slice xe a.length Q]] w λe w'=>e= .returned (.tuple #[])∧WrQ B b (l++opZ ⟨4,⟨⟨q,r⟩,t⟩,⟨⟨v,A⟩,C⟩,d,o,g,⟨⟨m,D⟩,E⟩,⟨⟨F,G⟩,H⟩,f,a⟩) w w':=by
 obtain⟨-,-,-,R,S,-,W,T,U,-,I⟩:=ay;simp only at R S W T U I;have a1:=hW.pt;have aA:=hid ah;have X:=hid ((WrQ.refl hW).alloc (by omega) (.cells #[(4:Int),q,r,t,v,A,C,d,o,.slice xd g.length O,m,D,E,F,G,H,f,.slice xe a.length Q] 125));have HA:=hid (an w (.cells #[(4:Int),q,r,t,v,A,C,d,o,.slice xd g.length O,m,D,E,F,G,H,f,.slice xe a.length Q] 125));have aB:=hid R.b;have a2:=hid S.b;have a3:=hid W;have a4:=hid T.b;have a5:=hid U.b;have aj:=hid I;have aC:=ep R;have aD:=ep S;have aE:=ep T;have aF:=ep U;have a6:=eM (s:=d) (by omega);have a7:=eM (s:=f) (by omega);clear hW ah R S W T U I;obtain⟨z1,J⟩:∃z,z=idZ ⟨⟨q,r⟩,t⟩:=⟨_,rfl⟩;obtain⟨z2,K⟩:∃z,z=idZ ⟨⟨v,A⟩,C⟩:=⟨_,rfl⟩;obtain⟨z3,L⟩:∃z,z=idZ ⟨⟨m,D⟩,E⟩:=⟨_,rfl⟩;obtain⟨z4,M⟩:∃z,z=idZ ⟨⟨F,G⟩,H⟩:=⟨_,rfl⟩;rw[<-J] at aC;rw[<-K] at aD;rw[<-L] at aE;rw[<-M] at aF;have ak:=hid J;have a8:=hid K;have a9:=hid L;have ba:=hid M;clear J K L M;go_enter Tryz.func133,Tryz.ntmps133;have aG:(natZ 4).length<=10:=dz (by decide);go_wp2_with fail;have Y:=hid (X.o.alloc (by have:=X.o.1.pt;omega) (.cells #[(4:Int)] 3))
 refine(fd B b l (w.heap.size+1) [4] 1 _ (by intro y N;simp at N;subst N;decide) (by simp;omega) (by simp) (by exact Y.o.1) (by exact bu _ _ (by simp)) (by have:=X.o.1.pt;omega)).mono ?_;rintro e y1 ⟨rfl,h⟩;have am:=hid (show WrQ B b (l++natZ 4) w y1 by have:=Y.o.trans (by exact h);simpa using this);have V:=hid (WrQ.obj h ((ax _ _ _ (lt_of_block HA.o)).trans HA.o) (by omega) (by decide));clear h Y;have aR:=cw1 V.o;have aS:=cw2 V.o;have aT:=cw3 V.o;go_wp2_with fail;refine(iF B b (l++natZ 4) ⟨⟨q,r⟩,t⟩ _ aB.o (by simp;omega) am.o.1).mono ?_;rintro e y2 ⟨rfl,h⟩;have Z:=hid (show WrQ B b ((l++natZ 4)++z1) w y2 by have:=am.o.trans h;rw[<-ak.o] at this;exact this);have u:=hid (h.obj V.o (by omega) (by decide));clear h;have aU:=cw0 u.o;have aV:=cw9 u.o;have aQ:=cw17 u.o;go_wp2_with fail;have aa:=hid (Z.o.alloc (by have:=Z.o.1.pt;omega) (.cells #[(a.length:Int)] 3));refine(fd B b ((l++natZ 4)++z1) y2.heap.size [(a.length:Int)] 1 _ (by intro y N;simp at N;subst N;omega) (by simp;omega) (by simp) (by exact aa.o.1) (by exact bu _ _ (by simp)) (by have:=Z.o.1.pt;omega)).mono ?_;rintro e y3 ⟨rfl,h⟩;have aH:=hid (show WrQ B b (((l++natZ 4)++z1)++natZ a.length) w y3 by have:=aa.o.trans (by exact h);simpa using this)
 have ac:=hid (WrQ.obj h ((ax _ _ _ (lt_of_block u.o)).trans u.o) (by omega) (by decide));clear h aa;have aW:=cw9 ac.o;have ag:=cw17 ac.o;have aX:=cw0 ac.o;have aI:(natZ (a.length:Int)).length<=10:=dz (by omega);obtain⟨n,hn⟩:∃n,n=a.length:=⟨_,rfl⟩;obtain⟨P,hP⟩:∃P,P=(((l++natZ 4)++z1)++natZ a.length):=⟨_,rfl⟩;have bb:P.length<=l.length+50:=by rw[hP];simp;omega
 have HP:=hid hP;have HN:=hid hn;clear hP;rw[<-hn] at az ag;clear hn aI aG;have aJ:=hid (show WrQ B b P w y3 by rw[HP.o];exact aH.o);have hN:(a.length:Int)=(n:Int):=by rw[HN.o]
 try rw[hN]
 clear hN;go_upto_region 27 with(fail);go_loopw [94] (λi wr=>∃j:Nat,j<=n∧i= .int .i64 j∧Hid (WrQ B b (P++(a.take j).flatMap idZ) w wr)) (λi _=>n-(RowKit.intOf i).toNat)
 case atStart=>exact⟨0,by omega,rfl,hid (by rw[iz,List.flatMap_nil,g8];exact aJ.o)⟩
 case round=>
  obtain⟨j,hj,rfl,HR⟩:=hrel;by_cases bc:j<n
  ·have p:j<a.length:=by have:=HN.o;omega
   obtain⟨ab,ao,rfl,-,bd,d0,d1,d2⟩:=IdsS.at_ (RowG.agr aA.o.elems ⟨HR.o.2.1.size,λk hk _=>HR.o.2.1.block k hk⟩) (k:=j) p;obtain⟨x,hx⟩:∃x,x=a.getD j .zero:=⟨_,rfl⟩;simp only[<-hx] at d0 d1 d2;have ap:x∈a:=by rw[hx,ae,aw p];exact ch p
   have aq:=aj.o.2 x ap;have HT:=hid (show(P++(a.take j).flatMap idZ)++idZ x=P++(a.take (j+1)).flatMap idZ by rw[cW p,aK,bJ,hx,ae,aw p,aM];rfl);have aL:(P++(a.take j).flatMap idZ).length<=P.length+30*n:=by
    have h1:=gJ (z:=idZ) (c:=30) (l:=a.take j) λy N=>ep (aj.o.2 y (ew N));have h2:(a.take j).length<=n:=by have:=List.length_take_le j a;omega
    have h3:30*(a.take j).length<=30*n:=iZ _ h2;rw[al];omega
   have ad:=aq.b;obtain⟨⟨xt,xr⟩,xi⟩:=x;simp only at d0 d1 d2 ad;obtain⟨P2,af⟩:∃P2,P2=P++(a.take j).flatMap idZ:=⟨_,rfl⟩;rw[<-af] at aL;have au:=hid af;have aN:=hid ad;clear af hx ap aq p ad;have av:=hid (show WrQ B b P2 w wr by rw[au.o];exact HR.o);have HK:=hid (av.o.alloc (by have:=av.o.1.pt;omega) (.cells #[xt,xr,xi] 108));go_wp2_with fail;refine(iF B b P2 ⟨⟨xt,xr⟩,xi⟩ _ aN.o (by omega) HK.o.1).mono ?_;rintro e w3 ⟨rfl,h⟩;have aP:=hid (HK.o.trans h);clear h;go_wp2;go_roundw
   case rel=>exact⟨j+1,by omega,by go_num,hid (by rw[<-HT.o,<-au.o];exact aP.o)⟩
   case measure=>simp[RowKit.intOf];omega
  ·obtain rfl:j=n:=by omega
   go_wp2;go_end0;refine⟨rfl,?_⟩;have:=HR.o;rw[HN.o,aO,HP.o,ak.o] at this;simpa[opZ,aM] using this
theorem wop_any (B b:Nat) (l:List UInt8) (o:Gop) (x:OpX) (w:World) (c:okO o) (d:o.dots.length<=200) (f:o.elems.length<=2000) (g:o.name.size<=1000000) (h:o.text.size<=1000000) (q:l.length+3000000<=140737488355328) (r:Wrt w B b l) (i:OpIn w (λk=>k<B) o x):
  Calls Tryz.prog 133 #[.pointer (some ⟨b,0,none⟩),.agg (opA o x)] w λe w'=>e= .returned (.tuple #[])∧WrQ B b (l++opZ o) w w':=by
 obtain⟨a,⟨⟨s,t⟩,u⟩,⟨⟨v,y⟩,z⟩,name,j,dots,⟨⟨m,A⟩,C⟩,⟨⟨D,E⟩,F⟩,text,elems⟩:=o;obtain⟨G,n,H,p⟩:=x;have M:0<=a:=c.1;have N:a<=4:=c.2.1;by_cases I:a=0
 ·subst I;exact wop_0 B b l s t u v y z name j dots m A C D E F text elems G n H p w c d f g h q r i
 by_cases J:a=1
 ·subst J;exact wop_1 B b l s t u v y z name j dots m A C D E F text elems G n H p w c d f g h q r i
 by_cases K:a=2
 ·subst K;exact wop_2 B b l s t u v y z name j dots m A C D E F text elems G n H p w c d f g h q r i
 by_cases L:a=3
 ·subst L;exact wop_3 B b l s t u v y z name j dots m A C D E F text elems G n H p w c d f g h q r i
 obtain rfl:a=4:=by omega
 exact wop_4 B b l s t u v y z name j dots m A C D E F text elems G n H p w c d f g h q r i
end
end
end Go.Proofs.YtkhmicndehlneaaGreatDoor
