/- Part 3 of the walks and plain laws that this claim uses, joined. Conditions: as each theorem states. -/
import Derived.Deep.QuietTactic
import Derived.Lib.VarintBits
import Derived.Lib.Zigzag
import Derived.OwnWalk
import Derived.Test.YtkhmicndehlneaaGreatDoorYha
import Derived.Test.YtkhmicndehlneaaGreatDoorYhb
namespace Go.Proofs.YtkhmicndehlneaaGreatDoor
set_option maxRecDepth 100000
set_option maxHeartbeats 16000000
set_option linter.unusedVariables false
section
section
open Go.RowKit Go.Lib
theorem ofInt_63 (a:Nat) (ha:a<9223372036854775808):(BitVec.ofInt 64 (a:Int)).toNat=a:=by
 rw[BitVec.ofInt_natCast,BitVec.toNat_ofNat];exact iK (by omega)
theorem or_63 (a b:Nat) (ha:a<9223372036854775808) (hb:b<9223372036854775808):bits .or .i64 (a:Int) (b:Int)=((a ||| b:Nat):Int):=by
 have hx:a ||| b<2 ^ 63:=Nat.or_lt_two_pow (by omega) (by omega);show IntKind.i64.wrap ((BitVec.ofInt 64 (a:Int) ||| BitVec.ofInt 64 (b:Int)).toNat:Int)=_;rw[BitVec.toNat_or,ofInt_63 a ha,ofInt_63 b hb,bz];omega
theorem pow_128 (k:Nat):128 ^ k=2 ^ (7*k):=by rw[Nat.pow_mul]
theorem pow_le_56 {k:Nat} (hk:k<=8):128 ^ k<=72057594037927936:=aL (Nat.pow_le_pow_right (by decide) hk) (by decide)
theorem or_digit (acc b k:Nat) (hb:b<128) (hk:k≤8) (ha:acc<128 ^ k):bits .or .i64 (acc:Int) (wrap64 ((b:Int)*2 ^ (7*k)))=((acc+b*128 ^ k:Nat):Int):=by
 have hp:=pow_le_56 hk
 have hm:b*128 ^ k<9223372036854775808:=by
  calc b*128 ^ k≤127*128 ^ k:=fd _ (by omega)
   _≤127*72057594037927936:=iS _ hp
   _<9223372036854775808:=by decide
 have e1:(b:Int)*2 ^ (7*k)=((b*128 ^ k:Nat):Int):=by
  rw[Int.natCast_mul,pow_128]
  simp
 have e2:wrap64 ((b*128 ^ k:Nat):Int)=((b*128 ^ k:Nat):Int):=IntWalk.wrap64_in _ (by omega)
 rw[e1,e2,or_63 _ _ (by omega) hm]
 congr 1
 rw[Nat.or_comm,Nat.mul_comm,pow_128,←Nat.two_pow_add_eq_or_of_lt (by rw[←pow_128];exact ha)]
 omega
theorem or_step (acc b k:Nat) (hb:b<256) (hk:k<=8) (ha:acc<128 ^ k):
  bits .or .i64 (acc:Int) (wrap64 (wrap64 (bits .and .u8 (b:Int) 127)*2 ^ (7*k)))=((acc+(b % 128)*128 ^ k:Nat):Int):=by
 rw[Go.u8_and127 (b:Int) (by omega) (by omega)];rw[show(b:Int) % 128=((b % 128:Nat):Int) from by omega];rw[show wrap64 ((b % 128:Nat):Int)=((b % 128:Nat):Int) from IntWalk.wrap64_in _ (by omega)];exact or_digit acc (b % 128) k (fv _ (by decide)) hk ha
def tkN (l:List UInt8):Nat:=match Vr.take l with| .ok n _=>n| .err _=>0
def tkR (l:List UInt8):List UInt8:=match Vr.take l with| .ok _ r=>r| .err _=>[]
def tkE (l:List UInt8):Nat:=match Vr.take l with| .ok _ _=>0| .err e=>e
theorem take_step (s:ByteArray) (k:Nat) (h:k<s.size):s.data.toList.drop k=s[k]::s.data.toList.drop (k+1):=by
 rw[iM (by simpa using h)];rfl
theorem tk_ok {l:List UInt8} {n:Nat} {r:List UInt8} (h:Vr.take l= .ok n r):tkN l=n∧tkR l=r∧tkE l=0:=by
 unfold tkN tkR tkE;rw[h];exact⟨rfl,rfl,rfl⟩
theorem tk_err {l:List UInt8} {e:Nat} (h:Vr.take l= .err e):tkN l=0∧tkR l=[]∧tkE l=e:=by
 unfold tkN tkR tkE;rw[h];exact⟨rfl,rfl,rfl⟩
theorem ret3 {a b c x y z:Value} (h1:a=x) (h2:b=y) (h3:c=z):Ending.returned (.tuple #[a,b,c])= .returned (.tuple #[x,y,z]):=by rw[h1,h2,h3]
theorem rest_of (s:ByteArray) (k:Nat):s.extract k s.size=⟨(s.data.toList.drop k).toArray⟩:=by
 apply fD;rw[gT];apply eH.1;rw[iw,fS,di (by rw[bI];simp)]
def takeQ (s:ByteArray) (w:World) (e:Ending) (w':World):Prop:=
 e= .returned (.tuple #[.int .i64 (tkN s.data.toList:Nat),.string ⟨(tkR s.data.toList).toArray⟩,.int .i64 (tkE s.data.toList:Nat)])∧∃n,w'=w.drewN n
theorem takeQ_err {s:ByteArray} {w:World} {e:Nat} (h:Vr.take s.data.toList= .err e):
  takeQ s w (.returned (.tuple #[(0:Int),.string ⟨#[]⟩,(e:Int)])) w:=by
 obtain⟨h1,h2,h3⟩:=tk_err h;exact⟨by rw[h1,h2,h3];rfl,0,rfl⟩
theorem takeQ_ok {s:ByteArray} {w:World} {n k nq:Nat} (h:Vr.take s.data.toList= .ok n (s.data.toList.drop k)):
  takeQ s w (.returned (.tuple #[(n:Int),.string (s.extract k s.size),(0:Int)])) (w.drewN nq):=by
 obtain⟨h1,h2,h3⟩:=tk_ok h;exact⟨by rw[h1,h2,h3,rest_of];rfl,nq,rfl⟩
theorem take_any (s:ByteArray) (hs:s.size<=maxLen) (w:World):
  Calls Tryz.prog 78 #[s] w λe w'=>takeQ s w e w':=by
 unfold maxLen at hs;go_enter Tryz.func78,Tryz.ntmps78;go_wp2;go_step3;go_wp2;go_step3;go_wp2;go_loop [2,5] (λn i=>∃k acc:Nat,k<=s.size∧k<=8∧i= .int .i64 k∧n= .int .i64 acc∧acc<128 ^ k∧Hid (Vr.takeF (s.data.toList.drop k) k acc=Vr.take s.data.toList)) (λ_ i=>8-(RowKit.intOf i).toNat)
 case atStart=>exact⟨0,0,by omega,by omega,rfl,rfl,by decide,rfl⟩
 case round=>
  obtain⟨k,acc,hk,hk8,rfl,rfl,hacc,HT⟩:=hrel;by_cases hlt:k<s.size
  ·have t1:((k:Int) == (s.size:Int))=false:=by rw[aV];omega
   have hst:=take_step s k hlt;by_cases hb:s[k].toNat<128
   ·have t2:(s[k].toNat:Int)<128:=by omega
    by_cases hz:s[k].toNat=0∧0<k
    ·obtain⟨hz1,hz2⟩:=hz;have t3:((s[k].toNat:Int) == 0)=true:=by rw[ce];omega
     have t4:(0:Int)<(k:Int):=by omega
     have hT:Vr.take s.data.toList= .err 11:=by
      rw[<-HT.out,hst];simp only[Vr.takeF];rw[aC (by omega),aJ ⟨hz1,hz2⟩]
     have HQ:=hid (@takeQ_err s w 11 hT);clear hT hst hz1 hz2 hb hacc;go_wp2
     try rw[eW]
     go_ret3;exact HQ.out
    ·have hT:Vr.take s.data.toList= .ok (acc+s[k].toNat*128 ^ k) (s.data.toList.drop (k+1)):=by
      rw[<-HT.out,hst];simp only[Vr.takeF];rw[aC (by omega),aC hz]
     have hor:=or_digit acc s[k].toNat k hb hk8 hacc;generalize acc+s[k].toNat*128 ^ k=n at *;have HQ:=hid (λnq=>@takeQ_ok s w n (k+1) nq hT);have hor2:bits .or .i64 (acc:Int) (wrap64 (wrap64 (s[k].toNat:Int)*2 ^ (7*k)))=(n:Int):=by
      rw[show wrap64 (s[k].toNat:Int)=(s[k].toNat:Int) from IntWalk.wrap64_in _ (by omega)];exact hor
     have b1:(k:Int)+1<=(s.size:Int):=by omega
     have b2:IntKind.i64.wrap ((k:Int)+1)=(k:Int)+1:=ds _ (by omega);by_cases hz0:s[k].toNat=0
     ·obtain rfl:k=0:=by omega
      have t3:((s[0].toNat:Int) == 0)=true:=by rw[ce];omega
      have hor3:bits .or .i64 (acc:Int) (s[0].toNat:Int)=(n:Int):=by
       rw[<-hor];simp only[Nat.mul_zero,Int.pow_zero,Int.mul_one];rw[show wrap64 (s[0].toNat:Int)=(s[0].toNat:Int) from IntWalk.wrap64_in _ (by omega)]
      clear hT hst hb hacc hz hz0 hor hor2;go_wp2;go_quiet (fail);go_wp2
      try rw[eW]
      go_ret3;exact HQ.out _
     ·have t3:((s[k].toNat:Int) == 0)=false:=by rw[aV];omega
      clear hT hst hb hacc hz hz0;go_wp2;go_quiet (fail);go_wp2
      try rw[eW]
      go_ret3;exact HQ.out _
   ·have t2:¬(s[k].toNat:Int)<128:=by omega
    by_cases h8:k=8
    ·subst h8;have hT:Vr.take s.data.toList= .err 11:=by
      rw[<-HT.out,hst];simp only[Vr.takeF];rw[aJ (by omega),aJ True.intro]
     have HQ:=hid (@takeQ_err s w 11 hT);clear hT hst hb hacc HT;go_wp2
     try rw[eW]
     go_ret3;exact HQ.out
    ·have t3:((k:Int) == 8)=false:=by rw[aV];omega
     have hT:Vr.takeF (s.data.toList.drop (k+1)) (k+1) (acc+(s[k].toNat % 128)*128 ^ k)=Vr.take s.data.toList:=by
      rw[<-HT.out,hst];simp only[Vr.takeF];rw[aJ (by omega),aC h8]
     have hor:=or_step acc s[k].toNat k (fJ _) hk8 hacc;have hacc2:acc+(s[k].toNat % 128)*128 ^ k<128 ^ (k+1):=by
      rw[Nat.pow_succ];have:(s[k].toNat % 128)*128 ^ k<=127*128 ^ k:=fd _ (by omega);omega
     generalize acc+(s[k].toNat % 128)*128 ^ k=n at *;have HN:=hid hT;have HA:=hid hacc2;clear hT hst hb hacc hacc2 HT;go_wp2;go_round
     case rel=>exact⟨k+1,n,by omega,by omega,by go_num,rfl,HA.out,HN⟩
     case measure=>simp[RowKit.intOf];omega
  ·obtain rfl:k=s.size:=by omega
   have hT:Vr.take s.data.toList= .err 10:=by
    rw[<-HT.out,List.drop_of_length_le (by simp)];rfl
   have HQ:=hid (@takeQ_err s w 10 hT);clear hT hacc HT;go_wp2
   try rw[eW]
   go_ret3;exact HQ.out
def putV (m:Nat):List Value:=(uvarint m).map b8
theorem or_128 (m:Nat):bits .or .u8 ((m:Int) % 256) 128=((m % 128+128:Nat):Int):=by
 rw[Lib.u8_or128_any _ (by omega) (by omega)];omega
theorem byte_big (m:Nat):(Value.int .u8 ((m % 128+128:Nat):Int))=b8 (m % 128+128).toUInt8:=by
 unfold b8;rw[Vr.toNat_big]
theorem byte_small (m:Nat) (h:m<128):(Value.int .u8 (m:Int))=b8 m.toUInt8:=by
 unfold b8;rw[Vr.toNat_small m h]
theorem putV_big {m:Nat} (h:128<=m) (xs:List Value):xs++putV m=(xs++[Value.int .u8 ((m % 128+128:Nat):Int)])++putV (m / 128):=by
 unfold putV;rw[uvarint_big h,byte_big];simp
theorem putV_small {m:Nat} (h:m<128) (xs:List Value):xs++putV m=xs++[Value.int .u8 (m:Int)]:=by
 unfold putV;rw[uvarint_small h,byte_small m h];simp
theorem infoB:(Tryz.prog.info? 5).map (λi=>(i.zero,i.size,i.bytes))=some (some (.int .u8 0),1,1):=by kernel_rfl
theorem cellOne (W:World) (u:Value) (e:TypeId) (j:Nat) (v:Value) (h:[u][j]? =some v):(W.alloc (.cells #[u] e)).cell? ((⟨W.heap.size,0,none⟩:Addr).add j)=some v:=by
 rw[jm];have:=World.cell?_alloc_mark W #[u] e (0,0) j;rw[this];simpa using h
theorem put_any (base:Nat) (v:Value) (n:Nat) (xs:List Value) (m:Nat) (hm:m<9223372036854775808) (hn:n<=100000) (w:World) (hO:w.ownsRow base 5 1 v n xs) (hb:base<=w.heap.size):
  Calls Tryz.prog 122 #[v,.int .u64 m] w λe w'=>∃v' n',e= .returned v'∧w'.ownsRow base 5 1 v' n' (xs++putV m)∧Below base w w':=by
 obtain⟨i0,hi,hz0,hz1,hz2⟩:=bD infoB;go_enter Tryz.func122,Tryz.ntmps122;go_wp2;go_loopw [0,1] (λv' c wr=>∃j m' n':Nat,∃ys:List Value,j<=8∧c= .int .u64 m'∧Hid (m'<128 ^ (9-j))∧m'<9223372036854775808∧n'<=n+j∧wr.ownsRow base 5 1 v' n' ys∧Hid (ys++putV m'=xs++putV m)∧Below base w wr) (λ_ c _=>(RowKit.intOf c).toNat)
 case atStart=>exact⟨0,m,n,xs,by omega,rfl,hid (by simpa using hm),hm,by omega,hO,rfl,ag _ _⟩
 case round=>
  obtain⟨j,m',n',ys,hj,rfl,HM,hm',hn',hO',HY,hB⟩:=hrel;have hsz:=hB.size;clear hO;by_cases hlt:128<=m'
  ·have hbit:=or_128 m';obtain⟨x,hx⟩:∃x,x=m' % 128+128:=⟨_,rfl⟩;rw[<-hx] at hbit;have HX:Hid ((ys++[Value.int .u8 (x:Int)])++putV (m' / 128)=xs++putV m):=by
    rw[<-HY.out,putV_big hlt,hx];exact rfl
   have hj8:j<8:=by
    rcases cj j 8 with h|h
    ·exact h
    ·exfalso;obtain rfl:j=8:=by omega
     have:=HM.out;simp at this;omega
   have HM2:Hid (m' / 128<128 ^ (9-(j+1))):=by
    have:=HM.out;rw[Vr.pow_split j hj8] at this;exact Nat.div_lt_of_lt_mul this
   clear hx;go_wp2_with (at_builtin;refine bu _ rfl _ _ 23 rfl base 5 i0 (.int .u8 0) 1 1 dD hi hz0 hz1 hz2 rfl (by decide) _ _ _ rfl (hO'.alloc _) ⟨wr.heap.size,0,none⟩ 1 1 [.int .u8 (x:Int)] rfl rfl (cellOne _ _ _) (λu hu=>by simp at hu;subst hu;rfl) (by unfold maxLen;omega) (by omega) (by simp;omega) ?_;intro v' w1 hown' hgrow _);go_roundw
   case rel=>exact⟨j+1,m' / 128,n'+1,_,by omega,by go_num,HM2,by omega,by omega,hown',HX,(hB.alloc (by omega) _).grown hgrow (by simp;omega) (λi h=>(hO'.lt i h).1)⟩
   case measure=>simp[RowKit.intOf];omega
  ·have hlt':m'<128:=by omega
   have HX:Hid (ys++[Value.int .u8 (m':Int)]=xs++putV m):=by
    rw[<-HY.out,putV_small hlt'];exact rfl
   go_wp2_with (at_builtin;refine bu _ rfl _ _ 23 rfl base 5 i0 (.int .u8 0) 1 1 dD hi hz0 hz1 hz2 rfl (by decide) _ _ _ rfl (hO'.alloc _) ⟨wr.heap.size,0,none⟩ 1 1 [.int .u8 (m':Int)] rfl rfl (cellOne _ _ _) (λu hu=>by simp at hu;subst hu;rfl) (by unfold maxLen;omega) (by omega) (by simp;omega) ?_;intro v' w1 hown' hgrow _);go_ret;exact⟨v',n'+1,rfl,by rw[<-HX.out];exact hown',(hB.alloc (by omega) _).grown hgrow (by simp;omega) (λi h=>(hO'.lt i h).1)⟩
def putS (m:Nat):ByteArray:=⟨(uvarint m).toArray⟩
theorem nil_own (w:World) (base:Nat):w.ownsRow base 5 1 (.slice none 0 0) 0 []:=aF _ _ _ _
theorem nat_ok (n:Int) (h0:0<=n) (h1:n<9223372036854775808) (w:World):
  Calls Tryz.prog 179 #[n] w λe w'=>e= .returned (.tuple #[.string (putS n.toNat),(0:Int)])∧Below w.heap.size w w':=by
 obtain⟨m,rfl⟩:=fm h0;have hm:m<9223372036854775808:=by omega
 rw[dL];clear h0 h1;go_enter Tryz.func179,Tryz.ntmps179;go_wp2_with fail;refine(put_any w.heap.size _ 0 [] m hm (by omega) _ (nil_own _ _) (aa _)).mono ?_;rintro e w1 ⟨v,k,rfl,hO,hB⟩;have hcv:=conv_own (P:=Tryz.prog) w1 23 9 5 w.heap.size v k (uvarint m) dD dS gn hO;clear hO;have hcv2:(convert 23 9 v).run Tryz.prog w1= .ok (.string (putS m)) w1:=hcv;clear hcv;go_wp2;go_ret2;exact⟨rfl,hB⟩
theorem nat_bad (n:Int) (h0:n<0) (w:World):
  Calls Tryz.prog 179 #[n] w λe w'=>e= .returned (.tuple #[.string ⟨#[]⟩,(1:Int)])∧w=w':=by
 go_enter Tryz.func179,Tryz.ntmps179;go_wp2;go_ret2;exact⟨rfl,rfl⟩
theorem tkN_lt (l:List UInt8):tkN l<9223372036854775808:=by
 unfold tkN;cases h:Vr.take l with
 |ok n r=>exact(Vr.take_ok h).2
 |err e=>show 0<9223372036854775808;omega
theorem fI {B:Nat} {a w:World} (h:Below B a w) (n:Nat):Below B a (w.drewN n):=⟨h.os,h.tape,h.output,h.size,h.block⟩
def TkIs (l:List UInt8) (n:Nat) (R:ByteArray) (e:Nat):Prop:=tkN l=n∧(⟨(tkR l).toArray⟩:ByteArray)=R∧tkE l=e
theorem ja (s:ByteArray) (hs:s.size<=maxLen) (n:Nat) (R:ByteArray) (c:Nat) (h:TkIs s.data.toList n R c) (w:World):
  Calls Tryz.prog 78 #[s] w λe w'=>e= .returned (.tuple #[.int .i64 n,R,.int .i64 c])∧∃k,w'=w.drewN k:=by
 obtain⟨rfl,rfl,rfl⟩:=h;exact take_any s hs w
theorem TkIs.lt {l:List UInt8} {n:Nat} {R:ByteArray} {e:Nat} (h:TkIs l n R e):n<9223372036854775808:=by rw[<-h.1];exact tkN_lt l
theorem tkR_le (l:List UInt8):(tkR l).length<=l.length:=by
 unfold tkR;cases h:Vr.take l with
 |ok n r=>have:=(Vr.take_ok h).1;rw[this];simp
 |err e=>simp
theorem TkIs.len {l:List UInt8} {n:Nat} {R:ByteArray} {e:Nat} (h:TkIs l n R e):R.size<=l.length:=by
 rw[<-h.2.1];have:=tkR_le l;simpa[ByteArray.size] using this
theorem putS_size (m:Nat):(putS m).size=(uvarint m).length:=by unfold putS;simp[ByteArray.size]
theorem putS_le (m:Nat) (h:m<18446744073709551616):(putS m).size<=10:=by rw[putS_size];exact uvarint_length64 h
def tbE (n:Nat) (R:ByteArray) (e:Nat):Nat:=if e≠0 then e else if R.size<n then 10 else 0
def tbT (n:Nat) (R:ByteArray) (e:Nat):ByteArray:=if e≠0 then ⟨#[]⟩ else if R.size<n then ⟨#[]⟩ else R.extract 0 n
def tbR (n:Nat) (R:ByteArray) (e:Nat):ByteArray:=if e≠0 then ⟨#[]⟩ else if R.size<n then ⟨#[]⟩ else R.extract n R.size
theorem takebytes_any (s:ByteArray) (hs:s.size<=maxLen) (n:Nat) (R:ByteArray) (c:Nat) (h:TkIs s.data.toList n R c) (w:World):
  Calls Tryz.prog 182 #[s] w λe w'=>e= .returned (.tuple #[.string (tbT n R c),.string (tbR n R c),.int .i64 (tbE n R c:Nat)])∧∃k,w'=w.drewN k:=by
 have hlt:=h.lt;have H:=hid h;have HS:=hid hs;have hRs:R.size<=9223372036854775807:=by
  have:=h.len;have e:s.data.toList.length=s.size:=by simp
  unfold maxLen at hs;omega
 by_cases he:c=0
 ·have t1:((c:Int) != 0)=false:=by rw[he];rfl
  have HE:Hid (c=0):=he;by_cases hn:R.size<n
  ·have e1:tbT n R c=⟨#[]⟩:=by unfold tbT;rw[aC (by omega),aJ hn]
   have e2:tbR n R c=⟨#[]⟩:=by unfold tbR;rw[aC (by omega),aJ hn]
   have e3:tbE n R c=10:=by unfold tbE;rw[aC (by omega),aJ hn]
   rw[e1,e2,e3];have t2:(R.size:Int)<(n:Int):=by omega
   clear h hs he e1 e2 e3 hn;go_enter Tryz.func182,Tryz.ntmps182;go_wp2_with fail;refine(ja s HS.out n R c H.out _).mono ?_;rintro e w1 ⟨rfl,k,rfl⟩;go_wp2;go_ret3;exact⟨rfl,k,rfl⟩
  ·have e1:tbT n R c=R.extract 0 n:=by unfold tbT;rw[aC (by omega),aC hn]
   have e2:tbR n R c=R.extract n R.size:=by unfold tbR;rw[aC (by omega),aC hn]
   have e3:tbE n R c=0:=by unfold tbE;rw[aC (by omega),aC hn]
   rw[e1,e2,e3];have t2:¬(R.size:Int)<(n:Int):=by omega
   have t3:(n:Int)<=(R.size:Int):=by omega
   have t4:(0:Int)<=(n:Int):=by omega
   clear h hs he e1 e2 e3 hn;go_enter Tryz.func182,Tryz.ntmps182;go_wp2_with fail;refine(ja s HS.out n R c H.out _).mono ?_;rintro e w1 ⟨rfl,k,rfl⟩;go_wp2;go_quiet (fail);go_wp2;go_ret3;exact⟨rfl,_,World.drewN_drewN _ _ _⟩
 ·have t1:((c:Int) != 0)=true:=by rw[eM];omega
  have e1:tbT n R c=⟨#[]⟩:=by unfold tbT;rw[aJ he]
  have e2:tbR n R c=⟨#[]⟩:=by unfold tbR;rw[aJ he]
  have e3:tbE n R c=c:=by unfold tbE;rw[aJ he]
  rw[e1,e2,e3];clear h hs he e1 e2 e3;go_enter Tryz.func182,Tryz.ntmps182;go_wp2_with fail;refine(ja s HS.out n R c H.out _).mono ?_;rintro e w1 ⟨rfl,k,rfl⟩;go_wp2;go_ret3;exact⟨rfl,k,rfl⟩
theorem bytes1_any (t:ByteArray) (hs:t.size<=140737488351232) (w:World):
  Calls Tryz.prog 135 #[t] w λe w'=>e= .returned (.string (putS t.size++t))∧Below w.heap.size w w':=by
 obtain⟨m,hm⟩:∃m,m=t.size:=⟨_,rfl⟩;have hm2:m<9223372036854775808:=by omega
 have hps:(putS m).size<=10:=putS_le _ (by omega);rw[<-hm];have hmI:(t.size:Int)=(m:Int):=by rw[hm]
 have HM:=hid hm;clear hm;go_enter Tryz.func135,Tryz.ntmps135;go_wp2_with fail;refine(put_any w.heap.size _ 0 [] m hm2 (by omega) _ (nil_own _ _) (aa _)).mono ?_;rintro e w1 ⟨v,k,rfl,hO,hB⟩;have hcv:(convert 23 9 v).run Tryz.prog w1= .ok (.string (putS m)) w1:=conv_own (P:=Tryz.prog) w1 23 9 5 w.heap.size v k (uvarint m) dD dS gn hO;clear hO;go_wp2;go_ret;exact⟨rfl,hB⟩
end
section
open Go.RowKit Go.Lib
def natsB (f:Nat->Int) (k:Nat):List UInt8:=(List.range k).flatMap λi=>uvarint (f i).toNat
theorem natsB_succ (f:Nat->Int) (k:Nat):natsB f (k+1)=natsB f k++uvarint (f k).toNat:=by
 unfold natsB;rw[List.range_succ];simp
theorem uv_len (m:Nat) (h:m<9223372036854775808):(uvarint m).length<=10:=uvarint_length64 (by omega)
theorem natsB_len (f:Nat->Int) (n:Nat) (hf:∀i,i<n->f i<9223372036854775808):∀k,k<=n->(natsB f k).length<=10*k
 |0,_=>by simp[natsB]
 |k+1,hk=>by
  rw[natsB_succ,al]
  have:=natsB_len f n hf k (by omega)
  have h1:=hf k (by omega)
  have:=uv_len (f k).toNat (by omega)
  omega
def natsS (f:Nat->Int) (n:Nat):ByteArray:=⟨(uvarint n++natsB f n).toArray⟩
theorem own_len {w:World} {base e n:Nat} {v:Value} {xs:List Value} (h:w.ownsRow base e 1 v n xs):n=xs.length:=by have:=h.1;omega
theorem nats_ok (A:Option Addr) (n cap:Nat) (f:Nat->Int) (hn:n<=5000) (hf:∀i,i<n->0<=f i∧f i<9223372036854775808) (w:World) (hR:Row1 w w.heap.size A n (λi=> .int .i64 (f i))):
  Calls Tryz.prog 72 #[.slice A n cap] w λe w'=>e= .returned (.tuple #[.string (natsS f n),(0:Int)])∧Below w.heap.size w w':=by
 have HR:=hid hR;have HF:=hid hf;have HL:=hid (natsB_len f n (λi hi=>(hf i hi).2));obtain⟨S,hS⟩:∃S,S=natsS f n:=⟨_,rfl⟩;rw[<-hS];have HS:=hid hS;clear hR hf hS;go_enter Tryz.func72,Tryz.ntmps72;go_wp2_with fail;refine(put_any w.heap.size _ 0 [] n (by omega) (by omega) _ (nil_own _ _) (aa _)).mono ?_;rintro e w1 ⟨v,j,rfl,hO,hB⟩;go_wp2;go_loopw [4,13] (λv i wr=>∃k m:Nat,k<=n∧i= .int .i64 k∧wr.ownsRow w.heap.size 5 1 v m ((uvarint n++natsB f k).map b8)∧Below w.heap.size w wr) (λ_ i _=>n-(RowKit.intOf i).toNat)
 case atStart=>exact⟨0,j,by omega,rfl,by simpa[natsB,putV] using hO,hB⟩
 case round=>
  obtain⟨k,m,hk,rfl,hO',hB'⟩:=hrel;clear hO hB;by_cases hlt:k<n
  ·obtain⟨ad,hA,-,hc⟩:=(HR.out.below hB') k hlt;subst hA;replace hc:wr.cell? (ad.add k)=some (.int .i64 (f k)):=hc;have h0:=(HF.out k hlt).1;have h1:=(HF.out k hlt).2;have HN:=hid (natsB_succ f k);have hm:m<=100000:=by
    have:=own_len hO';rw[aQ,al] at this;have:=HL.out k hk;have:=uv_len n (by omega);omega
   obtain⟨x,hx⟩:=fm h0;rw[hx] at hc;have HX:=hid hx;have hxl:x<9223372036854775808:=by omega
   clear hx h0 h1;go_wp2_with fail;refine(put_any w.heap.size _ m _ x hxl hm _ hO' hB'.size).mono ?_;rintro e w2 ⟨v2,j2,rfl,hO2,hB2⟩;go_wp2;go_roundw
   case rel=>
    refine⟨k+1,j2,by omega,by go_num,?_,hB'.trans hB2⟩;rw[HN.out,HX.out,dL,<-aG,bq];exact hO2
   case measure=>simp[RowKit.intOf];omega
  ·obtain rfl:k=n:=by omega
   have hcv:(convert 23 9 u4).run Tryz.prog wr= .ok (.string S) wr:=by rw[HS.out];exact conv_own (P:=Tryz.prog) wr 23 9 5 w.heap.size u4 m (uvarint k++natsB f k) dD dS gn hO'
   clear hO';go_wp2;go_ret2;exact⟨rfl,hB'⟩
theorem size_mkB (l:List UInt8):(⟨l.toArray⟩:ByteArray).size=l.length:=by simp[ByteArray.size]
theorem tkIs_ok {l:List UInt8} {n:Nat} {r:List UInt8} (h:Vr.take l= .ok n r):TkIs l n ⟨r.toArray⟩ 0:=by
 obtain⟨h1,h2,h3⟩:=tk_ok h;exact⟨h1,by rw[h2],h3⟩
theorem tkIs_err {l:List UInt8} {e:Nat} (h:Vr.take l= .err e):TkIs l 0 ⟨#[]⟩ e:=by
 obtain⟨h1,h2,h3⟩:=tk_err h;exact⟨h1,by rw[h2],h3⟩
theorem infoI:(Tryz.prog.info? 3).map (λi=>(i.zero,i.size,i.bytes))=some (some (.int .i64 0),1,8):=by kernel_rfl
def intsF (ns:List Nat) (i:Nat):Value:= .int .i64 (ns.getD i 0:Nat)
theorem intsF_set (ns:List Nat) (m n:Nat) (i:Nat) (hn:ns.length<n):(if i=ns.length then Value.int .i64 (m:Nat) else intsF ns i)=intsF (ns++[m]) i:=by
 unfold intsF;by_cases h:i=ns.length
 ·subst h;simp
 ·rw[aC h];by_cases h2:i<ns.length
  ·simp[es h2]
  ·rw[ae,ae,ck (by omega),ck (by simp;omega)]
def TnQ (r:Vr.LR) (w:World) (e:Ending) (w':World):Prop:=match r with
 | .ok ns r=>∃A cap,e= .returned (.tuple #[.slice A ns.length cap,.string ⟨r.toArray⟩,(0:Int)])∧Row1 w' w'.heap.size A ns.length (intsF ns)∧Below w.heap.size w w'
 | .err c=>e= .returned (.tuple #[.slice none 0 0,.string ⟨#[]⟩,.int .i64 (c:Nat)])∧Below w.heap.size w w'
def TnC (r:Vr.LR) (w:World) (e:Ending) (w':World):Prop:=match r with
 | .ok ns r=>∃A cap,e= .returned (.tuple #[.slice A ns.length cap,.string ⟨r.toArray⟩,(0:Int)])∧Row1 w' w'.heap.size A ns.length (intsF ns)∧Below w.heap.size w w'∧ns.length<=cap∧cap<=1000000
 | .err c=>e= .returned (.tuple #[.slice none 0 0,.string ⟨#[]⟩,.int .i64 (c:Nat)])∧Below w.heap.size w w'
theorem TnC_err {r:Vr.LR} {c:Nat} (h:r= .err c) {w w':World} (hb:Below w.heap.size w w'):TnC r w (.returned (.tuple #[.slice none 0 0,.string ⟨#[]⟩,(c:Int)])) w':=by
 subst h;exact⟨rfl,hb⟩
theorem takeNats_err {l:List UInt8} {c:Nat} (h:Vr.take l= .err c):Vr.takeNats l= .err c:=by unfold Vr.takeNats;rw[h]
theorem takeNats_short {l r:List UInt8} {n:Nat} (h:Vr.take l= .ok n r) (h2:r.length<n):Vr.takeNats l= .err 10:=by unfold Vr.takeNats;rw[h];simp only;rw[aJ h2]
theorem takeNats_go {l r:List UInt8} {n:Nat} (h:Vr.take l= .ok n r) (h2:¬r.length<n):Vr.takeNats l=Vr.takeN n r:=by unfold Vr.takeNats;rw[h];simp only;rw[aC h2]
theorem err_ne {l:List UInt8} {c:Nat} (h:Vr.take l= .err c):c≠0:=by have:=Vr.takeF_err _ _ _ _ h;omega
theorem take_le {l r:List UInt8} {n:Nat} (h:Vr.take l= .ok n r):r.length<=l.length:=by have:=(Vr.take_ok h).1;rw[this];simp
theorem takenats_cap (s:ByteArray) (hs:s.size<=1000000) (w:World):
  Calls Tryz.prog 123 #[s] w λe w'=>TnC (Vr.takeNats s.data.toList) w e w':=by
 have hsm:Hid (s.size<=maxLen):=hid (by unfold maxLen;omega);have hsl:s.data.toList.length=s.size:=by simp
 cases ht:Vr.take s.data.toList with
 |err c=>
  have HQ:=hid (λw'=>@TnC_err _ c (takeNats_err ht) w w');have HT:=hid (tkIs_err ht);have t1:((c:Int) != 0)=true:=by rw[eM];have:=err_ne ht;omega
  generalize Vr.takeNats s.data.toList=ans at *;clear ht hsl;go_enter Tryz.func123,Tryz.ntmps123;go_wp2_with fail;refine(ja s hsm.out 0 ⟨#[]⟩ c HT.out _).mono ?_;rintro e w1 ⟨rfl,k,rfl⟩;go_wp2;go_ret3;exact HQ.out _ (fI (ag _ _) _)
 | ok n r=>
  have HT:=hid (tkIs_ok ht);have hrl:=take_le ht;have hrs:=size_mkB r;obtain⟨R,hR⟩:∃R:ByteArray,R=⟨r.toArray⟩:=⟨_,rfl⟩;rw[<-hR] at HT hrs;by_cases hn:r.length<n
  ·have HQ:=hid (λw'=>@TnC_err _ 10 (takeNats_short ht hn) w w');have t2:(R.size:Int)<(n:Int):=by omega
   generalize Vr.takeNats s.data.toList=ans at *;clear ht hsl hrl hR hrs;go_enter Tryz.func123,Tryz.ntmps123;go_wp2_with fail;refine(ja s hsm.out n R 0 HT.out _).mono ?_;rintro e w1 ⟨rfl,k,rfl⟩;go_wp2;go_ret3;exact HQ.out _ (fI (ag _ _) _)
  ·have HG:=hid (takeNats_go ht hn);have t2:¬(R.size:Int)<(n:Int):=by omega
   have t3:decide (R.size<n)=false:=by simp;omega
   have t4:decide ((R.size:Int)<(n:Int))=false:=by simp;omega
   have hnl:n<=1000000:=by omega
   have hRl:R.size<=1000000:=by omega
   have HRe:=hid hR;obtain⟨ans,hans⟩:∃a,a=Vr.takeNats s.data.toList:=⟨_,rfl⟩;rw[<-hans] at HG ⊢;clear ht hsl hrl hR hrs hn hans;have hmk:=run_make_row' (P:=Tryz.prog) 27 3 (.int .i64 0) 8 Tryz.underlying27 infoI rfl .i64 .i64 n (by omega) (by omega);go_enter Tryz.func123,Tryz.ntmps123;go_wp2_with fail;refine(ja s hsm.out n R 0 HT.out _).mono ?_;rintro e w1 ⟨rfl,k,rfl⟩;go_wp2;clear hmk;go_loopw [2,3,4,26] (λv rs e i wr=>∃ns:List Nat,∃T:ByteArray,ns.length<=n∧v= .slice (some ⟨w.heap.size,0,none⟩) n n∧i= .int .i64 ns.length∧e= .int .i64 0∧rs= .string T∧T.size<=1000000∧Hid (ans=Vr.LR.pre ns (Vr.takeN (n-ns.length) T.data.toList))∧wr.rowIs w.heap.size 3 n (intsF ns)∧Below w.heap.size w wr) (λ_ _ _ i _=>n-(RowKit.intOf i).toNat)
   case atStart=>
    refine⟨[],R,by simp,rfl,rfl,rfl,rfl,hRl,?_,?_,(fI (ag _ _) k).alloc (aa _) _⟩
    ·show ans=_;rw[HG.out,HRe.out,Vr.LR.pre_nil];rfl
    ·exact(World.rowIs_made (w.drewN k) (.int .i64 0) n 3).congr λi _=>by simp[intsF]
   case round=>
    obtain⟨ns,T,hk,rfl,rfl,rfl,rfl,hT,HA,hRow,hB⟩:=hrel;obtain⟨j,hj⟩:∃j,j=ns.length:=⟨_,rfl⟩;rw[<-hj] at hk ⊢;by_cases hlt:j<n
    ·have hc:=hRow.cell hlt;have hf:=hRow.frozen j;have hTm:Hid (T.size<=maxLen):=hid (by unfold maxLen;omega);have hTl:T.data.toList.length=T.size:=by simp
     cases ht:Vr.take T.data.toList with
     |err c=>
      have HQ:=hid (λw'=>@TnC_err ans c (by rw[HA.out,<-hj,show n-j=(n-j-1)+1 by omega,Vr.takeN_err ht];rfl) w w');have HT2:=hid (tkIs_err ht);have t1:((c:Int) != 0)=true:=by rw[eM];have:=err_ne ht;omega
      have HJ:=hid hj;clear ht hTl hRow hj;go_wp2_with fail;refine(ja T hTm.out 0 ⟨#[]⟩ c HT2.out _).mono ?_;rintro e w2 ⟨rfl,k2,rfl⟩;go_wp2;go_ret3;exact HQ.out _ ((fI hB _).setCell (aa _) _)
     | ok m r2=>
      have hr2:=take_le ht;have hs2:=size_mkB r2;have HT2:=hid (tkIs_ok ht);have HN:Hid (ans=Vr.LR.pre (ns++[m]) (Vr.takeN (n-(j+1)) r2)):=hid (by rw[HA.out,<-hj,show n-j=(n-(j+1))+1 by omega,Vr.takeN_ok ht,Vr.LR.pre_pre]);obtain⟨R2,hR2⟩:∃R:ByteArray,R=⟨r2.toArray⟩:=⟨_,rfl⟩;rw[<-hR2] at HT2 hs2;have hR2s:R2.size<=1000000:=by omega
      have HR2:=hid hR2;have HRow:=hid hRow;have HJ:=hid hj;clear ht hTl hr2 hs2 hR2 hRow hj;go_wp2_with fail;refine(ja T hTm.out m R2 0 HT2.out _).mono ?_;rintro e w2 ⟨rfl,k2,rfl⟩;go_wp2;go_roundw
      case rel=>
       have hj:=HJ.out;refine⟨ns++[m],R2,by simp;omega,rfl,by rw[al,<-hj];go_num,rfl,rfl,hR2s,?_,?_,?_⟩
       ·show ans=_;rw[HN.out,HR2.out,al,<-hj];rfl
       ·refine((show(wr.drewN k2).rowIs w.heap.size 3 n (intsF ns) from HRow.out).set j _).congr λi _=> ?_;rw[hj];exact intsF_set ns m n i (by omega)
       ·exact(fI hB _).setCell (aa _) _
      case measure=>simp[RowKit.intOf];omega
    ·obtain rfl:j=n:=by omega
     have hQ:ans= .ok ns T.data.toList:=by
      rw[HA.out,<-hj,Nat.sub_self];simp[Vr.takeN,Vr.LR.pre]
     have hT3:T=⟨T.data.toList.toArray⟩:=rfl;have HQ:=hid hQ;have HJ:=hid hj;clear hQ hT3 hj;go_wp2;go_ret3;rw[HQ.out];refine⟨_,_,ret3 (by rw[<-HJ.out];rfl) rfl rfl,?_,hB,by rw[<-HJ.out];exact aa _,hnl⟩;rw[<-HJ.out];exact Row1.of_row hRow
end
end
end Go.Proofs.YtkhmicndehlneaaGreatDoor
