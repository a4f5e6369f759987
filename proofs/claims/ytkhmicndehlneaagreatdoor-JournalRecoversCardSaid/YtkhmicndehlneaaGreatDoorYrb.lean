/- Part 2 of the walks and plain laws that this claim uses, joined. Conditions: as each theorem states. -/
import Derived.BigQuiet
import Derived.Deep.AppendLies
import Derived.Deep.QuietTactic
import Derived.Deep.RegionHeld3
import Derived.Deep.RegionWith
import Derived.Lib.VarintBits
import Derived.Lib.Zigzag
import Derived.OwnWalk
import Init.Data.Nat.Bitwise
import Init.Data.UInt.Lemmas
import Derived.Test.YtkhmicndehlneaaGreatDoorYra
namespace Go.Proofs.YtkhmicndehlneaaGreatDoor
set_option maxRecDepth 100000
set_option maxHeartbeats 16000000
set_option linter.unusedVariables false
section
section
namespace Crc
def step (c:Nat):Nat:=if c % 2=1 then (c / 2) ^^^ 3988292384 else c / 2
def steps:Nat->Nat->Nat
 |0,c=>c
 |k+1,c=>step (steps k c)
def tab (i:Nat):Nat:=steps 8 i
def one (c b:Nat):Nat:=steps 8 (c ^^^ b)
def two (t:Nat->Nat) (c b:Nat):Nat:=(c / 256) ^^^ t ((c ^^^ b) % 256)
def sum (t:Nat->Nat) (l:List UInt8) (c:Nat):Nat:=l.foldl (λc b=>two t c b.toNat) c
theorem xor_lt {a b n:Nat} (ha:a<2 ^ n) (hb:b<2 ^ n):a ^^^ b<2 ^ n:=Nat.xor_lt_two_pow ha hb
theorem xor32 {a b:Nat} (ha:a<4294967296) (hb:b<4294967296):a ^^^ b<4294967296:=xor_lt (n:=32) ha hb
theorem step_lt {c:Nat} (h:c<4294967296):step c<4294967296:=by
 unfold step;split
 ·exact xor32 (by omega) (by omega)
 ·omega
theorem steps_lt {c:Nat} (h:c<4294967296):∀k,steps k c<4294967296
 |0=>h
 |k+1=>step_lt (steps_lt h k)
theorem tab_lt {i:Nat} (h:i<256):tab i<4294967296:=steps_lt (by omega) 8
theorem two_lt {t:Nat->Nat} (ht:∀i,i<256->t i<4294967296) {c b:Nat} (hc:c<4294967296):two t c b<4294967296:=
 xor32 (by omega) (ht _ (fO _ (by decide)))
theorem sum_lt {t:Nat->Nat} (a:∀i,i<256->t i<4294967296) (l:List UInt8):∀{c:Nat},c<4294967296->sum t l c<4294967296:=by
 induction l with
 |nil=>intro c h;exact h
 |cons b l ih=>intro c h;exact ih (two_lt a h)
theorem sum_append (t:Nat->Nat) (l m:List UInt8) (c:Nat):sum t (l++m) c=sum t m (sum t l c):=by unfold sum;rw[List.foldl_append]
end Crc
end
section
open Go.RowKit
theorem info_u32:(Tryz.prog.info? 78).map (λi=>(i.zero,i.size,i.bytes))=some (some (.int .u32 0),1,4):=by kernel_rfl
theorem take_snoc (s:ByteArray) (k:Nat) (h:k<s.size):s.data.toList.take (k+1)=s.data.toList.take k++[s[k]]:=by
 rw[cW (by simpa using h)];rfl
def crcOf (t:Nat->Nat) (l:List UInt8):Nat:=Crc.sum t l 4294967295 ^^^ 4294967295
theorem xor_mod256 (c b:Nat) (a:b<256):(c % 256) ^^^ b=(c ^^^ b) % 256:=by
 rw[show(256:Nat)=2 ^ 8 from rfl,Nat.xor_mod_two_pow,gx (show b<2 ^ 8 from a)]
theorem u8_idx (c b:Nat) (a:b<256):bits .xor .u8 ((c:Int) % 256) (b:Int)=((c ^^^ b) % 256:Nat):=by
 rw[show(c:Int) % 256=((c % 256:Nat):Int) from by omega,u8_xor_nat _ _ (fO _ (by decide)) a,xor_mod256 _ _ a]
theorem u32_step (c x:Nat) (b:c<4294967296) (a:x<4294967296):bits .xor .u32 ((c:Int) / 256) (x:Int)=((c / 256) ^^^ x:Nat):=by
 rw[show(c:Int) / 256=((c / 256:Nat):Int) from by omega,u32_xor_nat _ _ (by omega) a]
theorem sum_snoc (t:Nat->Nat) (s:ByteArray) (k:Nat) (h:k<s.size) (c:Nat):Crc.sum t (s.data.toList.take (k+1)) c=Crc.two t (Crc.sum t (s.data.toList.take k) c) s[k].toNat:=by
 rw[take_snoc s k h,Crc.sum_append];rfl
theorem u32_inv (c:Nat) (a:c<4294967296):bits .xor .u32 IntKind.u32.max (c:Int)=((c ^^^ 4294967295:Nat):Int):=by
 rw[show IntKind.u32.max=((4294967295:Nat):Int) from by decide,u32_xor_nat _ _ (by decide) a,Nat.xor_comm]
theorem ret_two {a b:Value} {x y:Value} (h:a=x) (h':b=y):Ending.returned (.tuple #[a,b])= .returned (.tuple #[x,y]):=by rw[h,h']
theorem sum_ok (A:Option Addr) (m:Nat) (t:Nat->Nat) (n:∀i,i<256->t i<4294967296) (s:ByteArray) (v:s.size<=maxLen) (w:World) (l:Row1 w w.heap.size A 256 (λi=> .int .u32 (t i:Nat))):
  Calls Tryz.prog 79 #[.slice A 256 m,s] w λe w'=>e= .returned (.tuple #[.int .u32 (crcOf t s.data.toList:Nat),(0:Int)])∧Below w.heap.size w w':=by
 unfold maxLen at v;have o:=λW=>run_bytes_of_string (P:=Tryz.prog) W 9 23 5 s fF df dM;go_enter Tryz.func79,Tryz.ntmps79;go_wp2;clear o;go_loopw [6,15] (λc i wr=>∃k:Nat,k<=s.size∧i= .int .i64 k∧c= .int .u32 (Crc.sum t (s.data.toList.take k) 4294967295:Nat)∧(∀j,(q:j<s.size)->wr.cell? ⟨w.heap.size,j,none⟩=some (.int .u8 (s[j].toNat:Int)))∧Row1 wr w.heap.size A 256 (λi=> .int .u32 (t i:Nat))∧Below w.heap.size w wr) (λ_ i _=>s.size-(RowKit.intOf i).toNat)
 case atStart=>
  refine⟨0,by omega,rfl,rfl,λj q=> ?_,l.keep λp y=>ey _ _ _ y,(ag _ _).drew.alloc (aa _) _⟩;exact(World.cell?_alloc_mark _ _ _ _ j).trans (bytesRow_at s _ j q)
 case round=>
  obtain⟨k,I,rfl,rfl,d,f,r⟩:=hrel;have a:=Crc.sum_lt n (s.data.toList.take k) (c:=4294967295) (by decide);by_cases g:k<s.size
  ·have G:=d k g;have u:=hid (sum_snoc t s k g 4294967295);generalize Crc.sum t (s.data.toList.take k) 4294967295=c at *;have z:=fm s[k];have B:=u8_idx c s[k].toNat z;obtain⟨x,b⟩:∃x,x=(c ^^^ s[k].toNat) % 256:=⟨_,rfl⟩;rw[<-b] at B;have h:x<256:=by rw[b];exact fO _ (by decide)
   have C:=hid b;clear b;obtain⟨J,D,-,H⟩:=f x h;have K:=u32_step c (t x) a (n x h);have E:=hid d;have F:=hid f;clear d f l;subst D;go_wp2;go_roundw
   case rel=>
    refine⟨k+1,by omega,by go_num,int_val ?_,E.o,F.o,r⟩;rw[u.o];unfold Crc.two;rw[<-C.o]
   case measure=>simp[RowKit.intOf];omega
  ·obtain rfl:k=s.size:=by omega
   rw[eB (by simp)] at a ⊢;clear d f l;go_wp2;go_ret2;exact⟨ret_two (int_val (u32_inv _ a)) rfl,r⟩
theorem sum_bad (A:Option Addr) (n a:Nat) (b:n≠256) (s:ByteArray) (w:World):
  Calls Tryz.prog 79 #[.slice A n a,s] w λe w'=>e= .returned (.tuple #[.int .u32 0,(1:Int)])∧w=w':=by
 have c:((n:Int) != 256)=true:=by rw[cM];omega
 go_enter Tryz.func79,Tryz.ntmps79;go_wp2;go_ret2;exact⟨rfl,rfl⟩
theorem u32_xor_b (c b:Nat) (hc:c<4294967296) (hb:b<256):bits .xor .u32 (c:Int) (b:Int)=((c ^^^ b:Nat):Int):=u32_xor_nat _ _ hc (by omega)
theorem u32_xor_m (c:Nat) (hc:c<4294967296):bits .xor .u32 (c:Int) 4294967295=((c ^^^ 4294967295:Nat):Int):=u32_xor_nat _ 4294967295 hc (by decide)
theorem refsum_ok (A:Option Addr) (d:Nat) (t:Nat->Nat) (f:∀i,i<256->t i<4294967296) (s:ByteArray) (l:s.size<=maxLen) (w:World) (g:Row1 w w.heap.size A 256 (λi=> .int .u32 (t i:Nat))):
  Calls Tryz.prog 125 #[.slice A 256 d,s] w λe w'=>e= .returned (.tuple #[.int .u32 (crcOf t s.data.toList:Nat),(0:Int)])∧w=w':=by
 unfold maxLen at l;have m:=hid g;clear g;go_enter Tryz.func125,Tryz.ntmps125;go_wp2;go_loop [6,7] (λc i=>∃k:Nat,k<=s.size∧i= .int .i64 k∧c= .int .u32 (Crc.sum t (s.data.toList.take k) 4294967295:Nat)) (λ_ i=>s.size-(RowKit.intOf i).toNat)
 case atStart=>exact⟨0,by omega,rfl,rfl⟩
 case round=>
  obtain⟨k,v,rfl,rfl⟩:=hrel;have a:=Crc.sum_lt f (s.data.toList.take k) (c:=4294967295) (by decide);by_cases h:k<s.size
  ·have j:=hid (sum_snoc t s k h 4294967295);generalize Crc.sum t (s.data.toList.take k) 4294967295=c at *;have n:=fm s[k];have o:=u32_xor_b c s[k].toNat a n;obtain⟨y,b⟩:∃y,y=c ^^^ s[k].toNat:=⟨_,rfl⟩;rw[<-b] at o;have p:=hid b;have r:y<4294967296:=by rw[b];exact Crc.xor32 a (by omega)
   clear b;obtain⟨x,q,-,u⟩:=m.o (y % 256) (fO _ (by decide));have z:=u32_step c (t (y % 256)) a (f _ (fO _ (by decide)));have B:y % 256<256:=fO _ (by decide);subst q;go_wp2;go_round
   case rel=>
    refine⟨k+1,by omega,by go_num,int_val ?_⟩;rw[j.o];unfold Crc.two;rw[<-p.o]
   case measure=>simp[RowKit.intOf];omega
  ·obtain rfl:k=s.size:=by omega
   rw[eB (by simp)] at a ⊢;go_wp2;go_ret2;exact⟨ret_two (int_val (u32_xor_m _ a)) rfl,rfl⟩
theorem step_bits (c:Nat) (h:c<4294967296):bits .xor .u32 ((c:Int) / 2) 3988292384=((c / 2 ^^^ 3988292384:Nat):Int):=by
 rw[show(c:Int) / 2=((c / 2:Nat):Int) from by omega];exact u32_xor_nat _ 3988292384 (by omega) (by decide)
theorem step_any (c:Nat) (b:c<4294967296) (w:World):
  Calls Tryz.prog 45 #[.int .u32 c] w λe w'=>e= .returned (.int .u32 (Crc.step c:Nat))∧w=w':=by
 have f:=step_bits c b;by_cases h:c % 2=1
 ·have d:((c:Int) % 2 == 1)=true:=by rw[cf];omega
  have a:=hid h;clear h;go_enter Tryz.func45,Tryz.ntmps45;go_wp2;go_ret;exact⟨ret_int (by unfold Crc.step;rw[aN a.o]),rfl⟩
 ·have d:((c:Int) % 2 == 1)=false:=by rw[aL];omega
  have a:=hid h;clear h;go_enter Tryz.func45,Tryz.ntmps45;go_wp2;go_ret;exact⟨ret_int (by unfold Crc.step;rw[aE a.o];omega),rfl⟩
def fX (c:Nat):List UInt8:=[UInt8.ofNat (c / 16777216),UInt8.ofNat (c / 65536),UInt8.ofNat (c / 256),UInt8.ofNat c]
def bytesV (c:Nat):List Value:=[.int .u8 ((c:Int) / 16777216),.int .u8 ((c:Int) / 65536 % 256),.int .u8 ((c:Int) / 256 % 256),.int .u8 ((c:Int) % 256)]
theorem bytesV_eq (c:Nat) (a:c<4294967296):bytesV c=(fX c).map b8:=by
 unfold bytesV fX b8;simp only[List.map_cons,List.map_nil,UInt8.toNat_ofNat'];rw[gx (show c / 16777216<2 ^ 8 by omega)];simp only[Int.natCast_ediv,Int.natCast_emod];rfl
theorem bytesV_one (c:Nat):∀u∈bytesV c,u.oneCell'=true:=by
 intro u a;simp[bytesV] at a;rcases a with rfl|rfl|rfl|rfl<;>rfl
theorem cells_new (W:World) (a:List Value) (e:TypeId) (j:Nat) (u:Value) (h:a[j]? =some u):(W.alloc (.cells a.toArray e)).cell? ((⟨W.heap.size,0,none⟩:Addr).add j)=some u:=by
 rw[ju];have:=World.cell?_alloc_mark W a.toArray e (0,0) j;rw[this];simpa using h
theorem conv4 (W:World) (c:Nat) (a:c<4294967296):
  (convert 23 9 (.slice (some ⟨W.heap.size,0,none⟩) 4 4)).run Tryz.prog (W.alloc (.cells #[.int .u8 ((c:Int) / 16777216),.int .u8 ((c:Int) / 65536 % 256),.int .u8 ((c:Int) / 256 % 256),.int .u8 ((c:Int) % 256)] 5))=
   .ok (.string ⟨(fX c).toArray⟩) (W.alloc (.cells #[.int .u8 ((c:Int) / 16777216),.int .u8 ((c:Int) / 65536 % 256),.int .u8 ((c:Int) / 256 % 256),.int .u8 ((c:Int) % 256)] 5)):=by
 refine run_convert_bytes_back _ 23 9 5 _ 4 (fX c) df dM fF λj b=> ?_;refine cells_new W (bytesV c) _ j _ ?_;rw[bytesV_eq c a,dW,aw b];rfl
theorem bytes_any (c:Nat) (a:c<4294967296) (w:World):
  Calls Tryz.prog 80 #[.int .u32 c] w λe w'=>e= .returned (.string ⟨(fX c).toArray⟩)∧Below w.heap.size w w':=by
 have d:=conv4 w c a;generalize b:(fX c).toArray=B at *;clear b;go_enter Tryz.func80,Tryz.ntmps80;go_wp2;go_ret;exact⟨rfl,(ag _ _).alloc (aa _) _⟩
theorem info_u8:(Tryz.prog.info? 5).map (λi=>(i.zero,i.size,i.bytes))=some (some (.int .u8 0),1,1):=by kernel_rfl
theorem refbytes_any (c:Nat) (l:c<4294967296) (w:World):
  Calls Tryz.prog 126 #[.int .u32 c] w λe w'=>e= .returned (.string ⟨(fX c).toArray⟩)∧Below w.heap.size w w':=by
 obtain⟨m,n,d,f,g⟩:=bx info_u8;have o:=hid (bytesV_eq c l);go_enter Tryz.func126,Tryz.ntmps126;go_wp2_with (at_builtin;refine bv _ rfl _ _ 23 rfl w.heap.size 5 m (.int .u8 0) 1 1 df n d f g rfl (by decide) (.slice none 0 0) 0 [] rfl (aH _ _ _ _) ⟨w.heap.size,0,none⟩ 4 4 (bytesV c) rfl rfl (λj u p=>cells_new _ _ _ j u p) (bytesV_one c) (by unfold maxLen;omega) (by omega) (by simp) ?_;intro q i a b _;have s:=kx (P:=Tryz.prog) i 23 9 5 w.heap.size q (0+4) (fX c) df dM fF (by rw[<-o.o];simpa using a));have r:Below w.heap.size w i:=((ag _ _).alloc (aa _) _).grown b (by simp) (λk h=>by cases h);go_ret;exact⟨rfl,r⟩
def tabL (k:Nat):List Value:=(List.range k).map λi=> .int .u32 (Crc.tab i:Nat)
theorem tabL_succ (k:Nat):tabL (k+1)=tabL k++[.int .u32 (Crc.tab k:Nat)]:=by unfold tabL;rw[List.range_succ];simp
theorem one_cell (W:World) (u:Value) (e:TypeId) (j:Nat) (v:Value) (h:[u][j]? =some v):(W.alloc (.cells #[u] e)).cell? ((⟨W.heap.size,0,none⟩:Addr).add j)=some v:=cells_new W [u] e j v h
theorem jg (w:World):
  Calls Tryz.prog 14 #[] w λe w'=>∃v,e= .returned v∧w'.ownsRow w.heap.size 78 1 v 256 (tabL 256)∧Below w.heap.size w w':=by
 obtain⟨r,s,g,l,n⟩:=bx info_u32;go_enter Tryz.func14,Tryz.ntmps14;go_wp2;go_loopw [1,2] (λv i wr=>∃k:Nat,k<=256∧i= .int .i64 k∧wr.ownsRow w.heap.size 78 1 v k (tabL k)∧Below w.heap.size w wr) (λ_ i _=>256-(RowKit.intOf i).toNat)
 case atStart=>exact⟨0,by omega,rfl,aH _ _ _ _,ag _ _⟩
 case round=>
  obtain⟨k,z,rfl,a,b⟩:=hrel;by_cases x:k<256
  ·have A:decide ((k:Int)<256)=true:=by simp;omega
   go_wp2;go_loop [3,4] (λc j=>∃m:Nat,m<=8∧j= .int .i64 m∧c= .int .u32 (Crc.steps m k)) (λ_ j=>8-(RowKit.intOf j).toNat)
   case atStart=>exact⟨0,by omega,rfl,rfl⟩
   case round=>
    obtain⟨m,t,rfl,rfl⟩:=hrel;have o:=Crc.steps_lt (c:=k) (by omega) m;by_cases p:m<8
    ·go_wp2_with (go_at_call 45;refine(step_any _ o _).mono ?_;rintro e w' ⟨rfl,rfl⟩);go_round
     case rel=>exact⟨m+1,by omega,by go_num,rfl⟩
     case measure=>simp[RowKit.intOf];omega
    ·obtain rfl:m=8:=by omega
     clear t p;have B:=a;have y:=b.size;go_wp2_with (at_builtin;refine bv _ rfl _ _ 33 rfl w.heap.size 78 r (.int .u32 0) 1 4 Tryz.underlying33 s g l n rfl (by decide) _ _ _ rfl (a.alloc _) ⟨wr.heap.size,0,none⟩ 1 1 [.int .u32 (Crc.steps 8 k:Nat)] rfl rfl (one_cell _ _ _) (λu q=>by simp at q;subst q;rfl) (by unfold maxLen;omega) (by omega) (by simp;omega) ?_;intro C D d f _);go_roundw
     case rel=>
      refine⟨k+1,by omega,by go_num,by rw[tabL_succ];exact d,(b.alloc b.size _).grown f (by simp;omega) (λj h=>(a.lt j h).1)⟩
     case measure=>simp[RowKit.intOf];omega
  ·obtain rfl:k=256:=by omega
   go_wp2;go_ret;exact⟨_,rfl,a,b⟩
end
section
open Go.RowKit Go.Lib
theorem ofInt_63 (a:Nat) (b:a<9223372036854775808):(BitVec.ofInt 64 (a:Int)).toNat=a:=by
 rw[BitVec.ofInt_natCast,BitVec.toNat_ofNat];exact gx (by omega)
theorem or_63 (a b:Nat) (c:a<9223372036854775808) (d:b<9223372036854775808):bits .or .i64 (a:Int) (b:Int)=((a ||| b:Nat):Int):=by
 have e:a ||| b<2 ^ 63:=Nat.or_lt_two_pow (by omega) (by omega);show IntKind.i64.wrap ((BitVec.ofInt 64 (a:Int) ||| BitVec.ofInt 64 (b:Int)).toNat:Int)=_;rw[BitVec.toNat_or,ofInt_63 a c,ofInt_63 b d,bH];omega
theorem pow_128 (k:Nat):128 ^ k=2 ^ (7*k):=by rw[Nat.pow_mul]
theorem pow_le_56 {k:Nat} (hk:k<=8):128 ^ k<=72057594037927936:=aP (Nat.pow_le_pow_right (by decide) hk) (by decide)
theorem or_digit (a b k:Nat) (i:b<128) (c:k<=8) (d:a<128 ^ k):bits .or .i64 (a:Int) (wrap64 ((b:Int)*2 ^ (7*k)))=((a+b*128 ^ k:Nat):Int):=by
 have e:=pow_le_56 c
 have f:b*128 ^ k<9223372036854775808:=by
  calc b*128 ^ k<=127*128 ^ k:=eP _ (by omega)
   _<=127*72057594037927936:=iZ _ e
   _<9223372036854775808:=by decide
 have g:(b:Int)*2 ^ (7*k)=((b*128 ^ k:Nat):Int):=by
  rw[Int.natCast_mul,pow_128]
  simp
 have h:wrap64 ((b*128 ^ k:Nat):Int)=((b*128 ^ k:Nat):Int):=IntWalk.wrap64_in _ (by omega)
 rw[g,h,or_63 _ _ (by omega) f]
 congr 1
 rw[Nat.or_comm,Nat.mul_comm,pow_128,<-Nat.two_pow_add_eq_or_of_lt (by rw[<-pow_128];exact d)]
 omega
theorem or_step (a b k:Nat) (e:b<256) (c:k<=8) (d:a<128 ^ k):
  bits .or .i64 (a:Int) (wrap64 (wrap64 (bits .and .u8 (b:Int) 127)*2 ^ (7*k)))=((a+(b % 128)*128 ^ k:Nat):Int):=by
 rw[Go.u8_and127 (b:Int) (by omega) (by omega)];rw[show(b:Int) % 128=((b % 128:Nat):Int) from by omega];rw[show wrap64 ((b % 128:Nat):Int)=((b % 128:Nat):Int) from IntWalk.wrap64_in _ (by omega)];exact or_digit a (b % 128) k (fO _ (by decide)) c d
def tkN (l:List UInt8):Nat:=match Vr.take l with| .ok n _=>n| .err _=>0
def tkR (l:List UInt8):List UInt8:=match Vr.take l with| .ok _ r=>r| .err _=>[]
def tkE (l:List UInt8):Nat:=match Vr.take l with| .ok _ _=>0| .err e=>e
theorem take_step (s:ByteArray) (k:Nat) (h:k<s.size):s.data.toList.drop k=s[k]::s.data.toList.drop (k+1):=by
 rw[iS (by simpa using h)];rfl
theorem tk_ok {l:List UInt8} {n:Nat} {r:List UInt8} (h:Vr.take l= .ok n r):tkN l=n∧tkR l=r∧tkE l=0:=by
 unfold tkN tkR tkE;rw[h];exact⟨rfl,rfl,rfl⟩
theorem tk_err {l:List UInt8} {e:Nat} (h:Vr.take l= .err e):tkN l=0∧tkR l=[]∧tkE l=e:=by
 unfold tkN tkR tkE;rw[h];exact⟨rfl,rfl,rfl⟩
theorem rest_of (s:ByteArray) (k:Nat):s.extract k s.size=⟨(s.data.toList.drop k).toArray⟩:=by
 apply fH;rw[gQ];apply eR.1;rw[iE,fV,eB (by rw[cb];simp)]
def takeQ (s:ByteArray) (w:World) (e:Ending) (w':World):Prop:=
 e= .returned (.tuple #[.int .i64 (tkN s.data.toList:Nat),.string ⟨(tkR s.data.toList).toArray⟩,.int .i64 (tkE s.data.toList:Nat)])∧∃n,w'=w.drewN n
theorem jh {s:ByteArray} {w:World} {e:Nat} (h:Vr.take s.data.toList= .err e):
  takeQ s w (.returned (.tuple #[(0:Int),.string ⟨#[]⟩,(e:Int)])) w:=by
 obtain⟨a,b,c⟩:=tk_err h;exact⟨by rw[a,b,c];rfl,0,rfl⟩
theorem takeQ_ok {s:ByteArray} {w:World} {n k a:Nat} (h:Vr.take s.data.toList= .ok n (s.data.toList.drop k)):
  takeQ s w (.returned (.tuple #[(n:Int),.string (s.extract k s.size),(0:Int)])) (w.drewN a):=by
 obtain⟨b,c,d⟩:=tk_ok h;exact⟨by rw[b,c,d,rest_of];rfl,a,rfl⟩
theorem take_any (s:ByteArray) (y:s.size<=maxLen) (w:World):
  Calls Tryz.prog 78 #[s] w λe w'=>takeQ s w e w':=by
 unfold maxLen at y;go_enter Tryz.func78,Tryz.ntmps78;go_wp2;go_step3;go_wp2;go_step3;go_wp2;go_loop [2,5] (λn i=>∃k a:Nat,k<=s.size∧k<=8∧i= .int .i64 k∧n= .int .i64 a∧a<128 ^ k∧Hid (Vr.takeF (s.data.toList.drop k) k a=Vr.take s.data.toList)) (λ_ i=>8-(RowKit.intOf i).toNat)
 case atStart=>exact⟨0,0,by omega,by omega,rfl,rfl,by decide,rfl⟩
 case round=>
  obtain⟨k,a,E,o,rfl,rfl,b,f⟩:=hrel;by_cases v:k<s.size
  ·have F:((k:Int) == (s.size:Int))=false:=by rw[aL];omega
   have d:=take_step s k v;by_cases l:s[k].toNat<128
   ·have z:(s[k].toNat:Int)<128:=by omega
    by_cases m:s[k].toNat=0∧0<k
    ·obtain⟨p,q⟩:=m;have t:((s[k].toNat:Int) == 0)=true:=by rw[cf];omega
     have G:(0:Int)<(k:Int):=by omega
     have c:Vr.take s.data.toList= .err 11:=by
      rw[<-f.o,d];simp only[Vr.takeF];rw[aE (by omega),aN ⟨p,q⟩]
     have g:=hid (@jh s w 11 c);clear c d p q l b;go_wp2
     try rw[dV]
     go_ret3;exact g.o
    ·have c:Vr.take s.data.toList= .ok (a+s[k].toNat*128 ^ k) (s.data.toList.drop (k+1)):=by
      rw[<-f.o,d];simp only[Vr.takeF];rw[aE (by omega),aE m]
     have h:=or_digit a s[k].toNat k l o b;generalize a+s[k].toNat*128 ^ k=n at *;have g:=hid (λA=>@takeQ_ok s w n (k+1) A c);have u:bits .or .i64 (a:Int) (wrap64 (wrap64 (s[k].toNat:Int)*2 ^ (7*k)))=(n:Int):=by
      rw[show wrap64 (s[k].toNat:Int)=(s[k].toNat:Int) from IntWalk.wrap64_in _ (by omega)];exact h
     have H:(k:Int)+1<=(s.size:Int):=by omega
     have I:IntKind.i64.wrap ((k:Int)+1)=(k:Int)+1:=cH _ (by omega);by_cases r:s[k].toNat=0
     ·obtain rfl:k=0:=by omega
      have t:((s[0].toNat:Int) == 0)=true:=by rw[cf];omega
      have B:bits .or .i64 (a:Int) (s[0].toNat:Int)=(n:Int):=by
       rw[<-h];simp only[Nat.mul_zero,Int.pow_zero,Int.mul_one];rw[show wrap64 (s[0].toNat:Int)=(s[0].toNat:Int) from IntWalk.wrap64_in _ (by omega)]
      clear c d l b m r h u;go_wp2;go_quiet (fail);go_wp2
      try rw[dV]
      go_ret3;exact g.o _
     ·have t:((s[k].toNat:Int) == 0)=false:=by rw[aL];omega
      clear c d l b m r;go_wp2;go_quiet (fail);go_wp2
      try rw[dV]
      go_ret3;exact g.o _
   ·have z:¬(s[k].toNat:Int)<128:=by omega
    by_cases x:k=8
    ·subst x;have c:Vr.take s.data.toList= .err 11:=by
      rw[<-f.o,d];simp only[Vr.takeF];rw[aN (by omega),aN True.intro]
     have g:=hid (@jh s w 11 c);clear c d l b f;go_wp2
     try rw[dV]
     go_ret3;exact g.o
    ·have t:((k:Int) == 8)=false:=by rw[aL];omega
     have c:Vr.takeF (s.data.toList.drop (k+1)) (k+1) (a+(s[k].toNat % 128)*128 ^ k)=Vr.take s.data.toList:=by
      rw[<-f.o,d];simp only[Vr.takeF];rw[aN (by omega),aE x]
     have h:=or_step a s[k].toNat k (fm _) o b;have j:a+(s[k].toNat % 128)*128 ^ k<128 ^ (k+1):=by
      rw[Nat.pow_succ];have:(s[k].toNat % 128)*128 ^ k<=127*128 ^ k:=eP _ (by omega);omega
     generalize a+(s[k].toNat % 128)*128 ^ k=n at *;have C:=hid c;have D:=hid j;clear c d l b j f;go_wp2;go_round
     case rel=>exact⟨k+1,n,by omega,by omega,by go_num,rfl,D.o,C⟩
     case measure=>simp[RowKit.intOf];omega
  ·obtain rfl:k=s.size:=by omega
   have c:Vr.take s.data.toList= .err 10:=by
    rw[<-f.o,List.drop_of_length_le (by simp)];rfl
   have g:=hid (@jh s w 10 c);clear c b f;go_wp2
   try rw[dV]
   go_ret3;exact g.o
theorem reftake_any (s:ByteArray) (H:s.size<=maxLen) (w:World):
  Calls Tryz.prog 124 #[s] w λe w'=>takeQ s w e w':=by
 unfold maxLen at H;go_enter Tryz.func124,Tryz.ntmps124;go_wp2;go_loop [5,6,7] (λn p i=>∃k c d:Nat,k<=s.size∧k<=8∧i= .int .i64 k∧n= .int .i64 c∧p= .int .i64 d∧Hid (d=128 ^ k)∧d<=72057594037927936∧c<d∧Hid (Vr.takeF (s.data.toList.drop k) k c=Vr.take s.data.toList)) (λ_ _ i=>9-(RowKit.intOf i).toNat)
 case atStart=>exact⟨0,0,1,by omega,by omega,rfl,rfl,rfl,rfl,by decide,by decide,rfl⟩
 case round=>
  obtain⟨k,c,d,Q,M,rfl,rfl,rfl,C,N,o,g⟩:=hrel;by_cases D:k<s.size
  ·have b:=take_step s k D;have G:=fm s[k];obtain⟨q,t⟩:∃q,q=(s[k].toNat % 128)*d:=⟨_,rfl⟩;have O:q<=127*d:=by rw[t];exact eP _ (by omega)
   have I:(s[k].toNat:Int) % 128*(d:Int)=(q:Int):=by rw[t];simp
   have j:q=(s[k].toNat % 128)*128 ^ k:=by rw[t,C.o]
   clear t;by_cases m:s[k].toNat<128
   ·have J:¬(127:Int)<(s[k].toNat:Int):=by omega
    have E:(s[k].toNat:Int)<128:=by omega
    have l:q=s[k].toNat*128 ^ k:=by rw[j,gx m]
    clear j;by_cases u:s[k].toNat=0∧0<k
    ·obtain⟨v,x⟩:=u;have A:((s[k].toNat:Int) == 0)=true:=by rw[cf];omega
     have R:(0:Int)<(k:Int):=by omega
     have a:Vr.take s.data.toList= .err 11:=by
      rw[<-g.o,b];simp only[Vr.takeF];rw[aE (by omega),aN ⟨v,x⟩]
     have f:=hid (@jh s w 11 a);clear a b v x m g l;by_cases h:k=8
     ·have B:((k:Int) == 8)=true:=by rw[cf];omega
      clear h;go_wp2;go_ret3;exact f.o
     ·have B:((k:Int) == 8)=false:=by rw[aL];omega
      clear h;go_wp2;go_ret3;exact f.o
    ·have a:Vr.take s.data.toList= .ok (c+q) (s.data.toList.drop (k+1)):=by
      rw[<-g.o,b];simp only[Vr.takeF];rw[aE (by omega),aE u,l]
     have f:=hid (λK=>@takeQ_ok s w (c+q) (k+1) K a);have S:(k:Int)+1<=(s.size:Int):=by omega
     have T:IntKind.i64.wrap ((k:Int)+1)=(k:Int)+1:=cH _ (by omega);by_cases y:s[k].toNat=0
     ·obtain rfl:k=0:=by omega
      have A:((s[0].toNat:Int) == 0)=true:=by rw[cf];omega
      clear a b m u y l;go_wp2;go_quiet (fail);go_wp2;go_ret3;exact f.o _
     ·have A:((s[k].toNat:Int) == 0)=false:=by rw[aL];omega
      clear a b m u y l;by_cases h:k=8
      ·have B:((k:Int) == 8)=true:=by rw[cf];omega
       clear h;go_wp2;go_quiet (fail);go_wp2;go_ret3;exact f.o _
      ·have B:((k:Int) == 8)=false:=by rw[aL];omega
       clear h;go_wp2;go_quiet (fail);go_wp2;go_ret3;exact f.o _
   ·have J:(127:Int)<(s[k].toNat:Int):=by omega
    have E:¬(s[k].toNat:Int)<128:=by omega
    by_cases h:k=8
    ·subst h;have a:Vr.take s.data.toList= .err 11:=by
      rw[<-g.o,b];simp only[Vr.takeF];rw[aN (by omega),aN True.intro]
     have f:=hid (@jh s w 11 a);clear a b m o g j;go_wp2;go_ret3;exact f.o
    ·have A:((k:Int) == 8)=false:=by rw[aL];omega
     have a:Vr.takeF (s.data.toList.drop (k+1)) (k+1) (c+q)=Vr.take s.data.toList:=by
      rw[<-g.o,b];simp only[Vr.takeF];rw[aN (by omega),aE h,j]
     have r:d*128=128 ^ (k+1):=by rw[C.o,Nat.pow_succ]
     have z:=pow_le_56 (k:=k+1) (by omega);rw[<-r] at z;have L:=hid a;have F:=hid r;have P:k<8:=by omega
     clear a b m g j r h;have U:wrap64 ((d:Int)*128)=(d:Int)*128:=IntWalk.wrap64_in _ (by omega);go_wp2;go_round
     case rel=>exact⟨k+1,c+q,d*128,by omega,by omega,by go_num,by go_num,by go_num,F,z,by omega,L⟩
     case measure=>simp[RowKit.intOf];omega
  ·obtain rfl:k=s.size:=by omega
   have a:Vr.take s.data.toList= .err 10:=by
    rw[<-g.o,List.drop_of_length_le (by simp)];rfl
   have f:=hid (@jh s w 10 a);clear a o g;go_wp2;go_ret3;exact f.o
def putV (m:Nat):List Value:=(uvarint m).map b8
theorem or_128 (m:Nat):bits .or .u8 ((m:Int) % 256) 128=((m % 128+128:Nat):Int):=by
 rw[Lib.u8_or128_any _ (by omega) (by omega)];omega
theorem byte_big (m:Nat):(Value.int .u8 ((m % 128+128:Nat):Int))=b8 (m % 128+128).toUInt8:=by
 unfold b8;rw[Vr.toNat_big]
theorem byte_small (m:Nat) (h:m<128):(Value.int .u8 (m:Int))=b8 m.toUInt8:=by
 unfold b8;rw[Vr.toNat_small m h]
theorem putV_big {m:Nat} (h:128<=m) (a:List Value):a++putV m=(a++[Value.int .u8 ((m % 128+128:Nat):Int)])++putV (m / 128):=by
 unfold putV;rw[uvarint_big h,byte_big];simp
theorem putV_small {m:Nat} (h:m<128) (a:List Value):a++putV m=a++[Value.int .u8 (m:Int)]:=by
 unfold putV;rw[uvarint_small h,byte_small m h];simp
theorem infoB:(Tryz.prog.info? 5).map (λi=>(i.zero,i.size,i.bytes))=some (some (.int .u8 0),1,1):=by kernel_rfl
theorem cellOne (W:World) (u:Value) (e:TypeId) (j:Nat) (v:Value) (h:[u][j]? =some v):(W.alloc (.cells #[u] e)).cell? ((⟨W.heap.size,0,none⟩:Addr).add j)=some v:=by
 rw[ju];have:=World.cell?_alloc_mark W #[u] e (0,0) j;rw[this];simpa using h
theorem put_any (a:Nat) (v:Value) (n:Nat) (k:List Value) (m:Nat) (B:m<9223372036854775808) (O:n<=100000) (w:World) (C:w.ownsRow a 5 1 v n k) (P:a<=w.heap.size):
  Calls Tryz.prog 122 #[v,.int .u64 m] w λe w'=>∃v' n',e= .returned v'∧w'.ownsRow a 5 1 v' n' (k++putV m)∧Below a w w':=by
 obtain⟨D,E,p,q,r⟩:=bx infoB;go_enter Tryz.func122,Tryz.ntmps122;go_wp2;go_loopw [0,1] (λv' c wr=>∃j b n':Nat,∃l:List Value,j<=8∧c= .int .u64 b∧Hid (b<128 ^ (9-j))∧b<9223372036854775808∧n'<=n+j∧wr.ownsRow a 5 1 v' n' l∧Hid (l++putV b=k++putV m)∧Below a w wr) (λ_ c _=>(RowKit.intOf c).toNat)
 case atStart=>exact⟨0,m,n,k,by omega,rfl,hid (by simpa using B),B,by omega,C,rfl,ag _ _⟩
 case round=>
  obtain⟨j,b,n',l,Q,rfl,F,L,M,g,G,s⟩:=hrel;have N:=s.size;clear C;by_cases H:128<=b
  ·have t:=or_128 b;obtain⟨x,y⟩:∃x,x=b % 128+128:=⟨_,rfl⟩;rw[<-y] at t;have z:Hid ((l++[Value.int .u8 (x:Int)])++putV (b / 128)=k++putV m):=by
    rw[<-G.o,putV_big H,y];exact rfl
   have I:j<8:=by
    rcases cJ j 8 with h|h
    ·exact h
    ·exfalso;obtain rfl:j=8:=by omega
     have:=F.o;simp at this;omega
   have J:Hid (b / 128<128 ^ (9-(j+1))):=by
    have:=F.o;rw[Vr.pow_split j I] at this;exact Nat.div_lt_of_lt_mul this
   clear y;go_wp2_with (at_builtin;refine bv _ rfl _ _ 23 rfl a 5 D (.int .u8 0) 1 1 df E p q r rfl (by decide) _ _ _ rfl (g.alloc _) ⟨wr.heap.size,0,none⟩ 1 1 [.int .u8 (x:Int)] rfl rfl (cellOne _ _ _) (λu o=>by simp at o;subst o;rfl) (by unfold maxLen;omega) (by omega) (by simp;omega) ?_;intro v' K d f _);go_roundw
   case rel=>exact⟨j+1,b / 128,n'+1,_,by omega,by go_num,J,by omega,by omega,d,z,(s.alloc (by omega) _).grown f (by simp;omega) (λi h=>(g.lt i h).1)⟩
   case measure=>simp[RowKit.intOf];omega
  ·have A:b<128:=by omega
   have z:Hid (l++[Value.int .u8 (b:Int)]=k++putV m):=by
    rw[<-G.o,putV_small A];exact rfl
   go_wp2_with (at_builtin;refine bv _ rfl _ _ 23 rfl a 5 D (.int .u8 0) 1 1 df E p q r rfl (by decide) _ _ _ rfl (g.alloc _) ⟨wr.heap.size,0,none⟩ 1 1 [.int .u8 (b:Int)] rfl rfl (cellOne _ _ _) (λu o=>by simp at o;subst o;rfl) (by unfold maxLen;omega) (by omega) (by simp;omega) ?_;intro v' K d f _);go_ret;exact⟨v',n'+1,rfl,by rw[<-z.o];exact d,(s.alloc (by omega) _).grown f (by simp;omega) (λi h=>(g.lt i h).1)⟩
def putS (m:Nat):ByteArray:=⟨(uvarint m).toArray⟩
theorem nil_own (w:World) (base:Nat):w.ownsRow base 5 1 (.slice none 0 0) 0 []:=aH _ _ _ _
theorem nat_ok (n:Int) (c:0<=n) (f:n<9223372036854775808) (w:World):
  Calls Tryz.prog 179 #[n] w λe w'=>e= .returned (.tuple #[.string (putS n.toNat),(0:Int)])∧Below w.heap.size w w':=by
 obtain⟨m,rfl⟩:=dU c;have g:m<9223372036854775808:=by omega
 rw[bX];clear c f;go_enter Tryz.func179,Tryz.ntmps179;go_wp2_with fail;refine(put_any w.heap.size _ 0 [] m g (by omega) _ (nil_own _ _) (aa _)).mono ?_;rintro e b ⟨v,k,rfl,d,h⟩;have a:=kx (P:=Tryz.prog) b 23 9 5 w.heap.size v k (uvarint m) df dM fF d;clear d;have i:(convert 23 9 v).run Tryz.prog b= .ok (.string (putS m)) b:=a;clear a;go_wp2;go_ret2;exact⟨rfl,h⟩
theorem nat_bad (n:Int) (a:n<0) (w:World):
  Calls Tryz.prog 179 #[n] w λe w'=>e= .returned (.tuple #[.string ⟨#[]⟩,(1:Int)])∧w=w':=by
 go_enter Tryz.func179,Tryz.ntmps179;go_wp2;go_ret2;exact⟨rfl,rfl⟩
theorem tkN_lt (l:List UInt8):tkN l<9223372036854775808:=by
 unfold tkN;cases h:Vr.take l with
 |ok n r=>exact(Vr.take_ok h).2
 |err e=>show 0<9223372036854775808;omega
theorem dE {B:Nat} {a w:World} (h:Below B a w) (n:Nat):Below B a (w.drewN n):=⟨h.os,h.tape,h.output,h.size,h.block⟩
def TkIs (l:List UInt8) (n:Nat) (R:ByteArray) (e:Nat):Prop:=tkN l=n∧(⟨(tkR l).toArray⟩:ByteArray)=R∧tkE l=e
theorem jf (s:ByteArray) (a:s.size<=maxLen) (n:Nat) (R:ByteArray) (c:Nat) (h:TkIs s.data.toList n R c) (w:World):
  Calls Tryz.prog 78 #[s] w λe w'=>e= .returned (.tuple #[.int .i64 n,R,.int .i64 c])∧∃k,w'=w.drewN k:=by
 obtain⟨rfl,rfl,rfl⟩:=h;exact take_any s a w
theorem eF (s:ByteArray) (a:s.size<=maxLen) (n:Nat) (R:ByteArray) (c:Nat) (h:TkIs s.data.toList n R c) (w:World):
  Calls Tryz.prog 124 #[s] w λe w'=>e= .returned (.tuple #[.int .i64 n,R,.int .i64 c])∧∃k,w'=w.drewN k:=by
 obtain⟨rfl,rfl,rfl⟩:=h;exact reftake_any s a w
theorem TkIs.lt {l:List UInt8} {n:Nat} {R:ByteArray} {e:Nat} (h:TkIs l n R e):n<9223372036854775808:=by rw[<-h.1];exact tkN_lt l
theorem tkR_le (l:List UInt8):(tkR l).length<=l.length:=by
 unfold tkR;cases h:Vr.take l with
 |ok n r=>have:=(Vr.take_ok h).1;rw[this];simp
 |err e=>simp
theorem TkIs.len {l:List UInt8} {n:Nat} {R:ByteArray} {e:Nat} (h:TkIs l n R e):R.size<=l.length:=by
 rw[<-h.2.1];have:=tkR_le l;simpa[ByteArray.size] using this
theorem putS_size (m:Nat):(putS m).size=(uvarint m).length:=by unfold putS;simp[ByteArray.size]
theorem putS_le (m:Nat) (h:m<18446744073709551616):(putS m).size<=10:=by rw[putS_size];exact uvarint_length64 h
def tbE (n:Nat) (R:ByteArray) (e:Nat):Nat:=if e≠0 then e else if R.size<n then 10 else 0
def tbT (n:Nat) (R:ByteArray) (e:Nat):ByteArray:=if e≠0 then ⟨#[]⟩ else if R.size<n then ⟨#[]⟩ else R.extract 0 n
def tbR (n:Nat) (R:ByteArray) (e:Nat):ByteArray:=if e≠0 then ⟨#[]⟩ else if R.size<n then ⟨#[]⟩ else R.extract n R.size
theorem takebytes_any (s:ByteArray) (i:s.size<=maxLen) (n:Nat) (R:ByteArray) (c:Nat) (h:TkIs s.data.toList n R c) (w:World):
  Calls Tryz.prog 182 #[s] w λe w'=>e= .returned (.tuple #[.string (tbT n R c),.string (tbR n R c),.int .i64 (tbE n R c:Nat)])∧∃k,w'=w.drewN k:=by
 have p:=h.lt;have H:=hid h;have j:=hid i;have q:R.size<=9223372036854775807:=by
  have:=h.len;have e:s.data.toList.length=s.size:=by simp
  unfold maxLen at i;omega
 by_cases a:c=0
 ·have m:((c:Int) != 0)=false:=by rw[a];rfl
  have r:Hid (c=0):=a;by_cases b:R.size<n
  ·have d:tbT n R c=⟨#[]⟩:=by unfold tbT;rw[aE (by omega),aN b]
   have f:tbR n R c=⟨#[]⟩:=by unfold tbR;rw[aE (by omega),aN b]
   have g:tbE n R c=10:=by unfold tbE;rw[aE (by omega),aN b]
   rw[d,f,g];have o:(R.size:Int)<(n:Int):=by omega
   clear h i a d f g b;go_enter Tryz.func182,Tryz.ntmps182;go_wp2_with fail;refine(jf s j.o n R c H.o _).mono ?_;rintro e l ⟨rfl,k,rfl⟩;go_wp2;go_ret3;exact⟨rfl,k,rfl⟩
  ·have d:tbT n R c=R.extract 0 n:=by unfold tbT;rw[aE (by omega),aE b]
   have f:tbR n R c=R.extract n R.size:=by unfold tbR;rw[aE (by omega),aE b]
   have g:tbE n R c=0:=by unfold tbE;rw[aE (by omega),aE b]
   rw[d,f,g];have o:¬(R.size:Int)<(n:Int):=by omega
   have t:(n:Int)<=(R.size:Int):=by omega
   have u:(0:Int)<=(n:Int):=by omega
   clear h i a d f g b;go_enter Tryz.func182,Tryz.ntmps182;go_wp2_with fail;refine(jf s j.o n R c H.o _).mono ?_;rintro e l ⟨rfl,k,rfl⟩;go_wp2;go_quiet (fail);go_wp2;go_ret3;exact⟨rfl,_,World.drewN_drewN _ _ _⟩
 ·have m:((c:Int) != 0)=true:=by rw[cM];omega
  have d:tbT n R c=⟨#[]⟩:=by unfold tbT;rw[aN a]
  have f:tbR n R c=⟨#[]⟩:=by unfold tbR;rw[aN a]
  have g:tbE n R c=c:=by unfold tbE;rw[aN a]
  rw[d,f,g];clear h i a d f g;go_enter Tryz.func182,Tryz.ntmps182;go_wp2_with fail;refine(jf s j.o n R c H.o _).mono ?_;rintro e l ⟨rfl,k,rfl⟩;go_wp2;go_ret3;exact⟨rfl,k,rfl⟩
theorem reftakebytes_any (s:ByteArray) (i:s.size<=maxLen) (n:Nat) (R:ByteArray) (c:Nat) (h:TkIs s.data.toList n R c) (w:World):
  Calls Tryz.prog 202 #[s] w λe w'=>e= .returned (.tuple #[.string (tbT n R c),.string (tbR n R c),.int .i64 (tbE n R c:Nat)])∧∃k,w'=w.drewN k:=by
 have p:=h.lt;have H:=hid h;have j:=hid i;have q:R.size<=9223372036854775807:=by
  have:=h.len;have e:s.data.toList.length=s.size:=by simp
  unfold maxLen at i;omega
 by_cases a:c=0
 ·have m:((c:Int) != 0)=false:=by rw[a];rfl
  have r:Hid (c=0):=a;by_cases b:R.size<n
  ·have d:tbT n R c=⟨#[]⟩:=by unfold tbT;rw[aE (by omega),aN b]
   have f:tbR n R c=⟨#[]⟩:=by unfold tbR;rw[aE (by omega),aN b]
   have g:tbE n R c=10:=by unfold tbE;rw[aE (by omega),aN b]
   rw[d,f,g];have o:(R.size:Int)<(n:Int):=by omega
   clear h i a d f g b;go_enter Tryz.func202,Tryz.ntmps202;go_wp2_with fail;refine(eF s j.o n R c H.o _).mono ?_;rintro e l ⟨rfl,k,rfl⟩;go_wp2;go_ret3;exact⟨rfl,k,rfl⟩
  ·have d:tbT n R c=R.extract 0 n:=by unfold tbT;rw[aE (by omega),aE b]
   have f:tbR n R c=R.extract n R.size:=by unfold tbR;rw[aE (by omega),aE b]
   have g:tbE n R c=0:=by unfold tbE;rw[aE (by omega),aE b]
   rw[d,f,g];have o:¬(R.size:Int)<(n:Int):=by omega
   have t:(n:Int)<=(R.size:Int):=by omega
   have u:(0:Int)<=(n:Int):=by omega
   clear h i a d f g b;go_enter Tryz.func202,Tryz.ntmps202;go_wp2_with fail;refine(eF s j.o n R c H.o _).mono ?_;rintro e l ⟨rfl,k,rfl⟩;go_wp2;go_quiet (fail);go_wp2;go_ret3;exact⟨rfl,_,World.drewN_drewN _ _ _⟩
 ·have m:((c:Int) != 0)=true:=by rw[cM];omega
  have d:tbT n R c=⟨#[]⟩:=by unfold tbT;rw[aN a]
  have f:tbR n R c=⟨#[]⟩:=by unfold tbR;rw[aN a]
  have g:tbE n R c=c:=by unfold tbE;rw[aN a]
  rw[d,f,g];clear h i a d f g;go_enter Tryz.func202,Tryz.ntmps202;go_wp2_with fail;refine(eF s j.o n R c H.o _).mono ?_;rintro e l ⟨rfl,k,rfl⟩;go_wp2;go_ret3;exact⟨rfl,k,rfl⟩
theorem bytes1_any (t:ByteArray) (j:t.size<=140737488351232) (w:World):
  Calls Tryz.prog 135 #[t] w λe w'=>e= .returned (.string (putS t.size++t))∧Below w.heap.size w w':=by
 obtain⟨m,a⟩:∃m,m=t.size:=⟨_,rfl⟩;have c:m<9223372036854775808:=by omega
 have g:(putS m).size<=10:=putS_le _ (by omega);rw[<-a];have h:(t.size:Int)=(m:Int):=by rw[a]
 have l:=hid a;clear a;go_enter Tryz.func135,Tryz.ntmps135;go_wp2_with fail;refine(put_any w.heap.size _ 0 [] m c (by omega) _ (nil_own _ _) (aa _)).mono ?_;rintro e b ⟨v,k,rfl,d,f⟩;have i:(convert 23 9 v).run Tryz.prog b= .ok (.string (putS m)) b:=kx (P:=Tryz.prog) b 23 9 5 w.heap.size v k (uvarint m) df dM fF d;clear d;go_wp2;go_ret;exact⟨rfl,f⟩
end
section
open Go.RowKit Go.Lib
def natsB (f:Nat->Int) (k:Nat):List UInt8:=(List.range k).flatMap λi=>uvarint (f i).toNat
theorem natsB_succ (f:Nat->Int) (k:Nat):natsB f (k+1)=natsB f k++uvarint (f k).toNat:=by
 unfold natsB;rw[List.range_succ];simp
theorem uv_len (m:Nat) (h:m<9223372036854775808):(uvarint m).length<=10:=uvarint_length64 (by omega)
theorem natsB_len (f:Nat->Int) (n:Nat) (hf:∀i,i<n->f i<9223372036854775808):∀k,k<=n->(natsB f k).length<=10*k
 |0,_=>by simp[natsB]
 |k+1,hk=>by
  rw[natsB_succ,al]
  have:=natsB_len f n hf k (by omega)
  have h1:=hf k (by omega)
  have:=uv_len (f k).toNat (by omega)
  omega
def natsS (f:Nat->Int) (n:Nat):ByteArray:=⟨(uvarint n++natsB f n).toArray⟩
theorem own_len {w:World} {base e n:Nat} {v:Value} {xs:List Value} (h:w.ownsRow base e 1 v n xs):n=xs.length:=by have:=h.1;omega
theorem nats_ok (A:Option Addr) (n o:Nat) (f:Nat->Int) (O:n<=5000) (d:∀i,i<n->0<=f i∧f i<9223372036854775808) (w:World) (p:Row1 w w.heap.size A n (λi=> .int .i64 (f i))):
  Calls Tryz.prog 72 #[.slice A n o] w λe w'=>e= .returned (.tuple #[.string (natsS f n),(0:Int)])∧Below w.heap.size w w':=by
 have B:=hid p;have q:=hid d;have C:=hid (natsB_len f n (λi D=>(d i D).2));obtain⟨S,g⟩:∃S,S=natsS f n:=⟨_,rfl⟩;rw[<-g];have E:=hid g;clear p d g;go_enter Tryz.func72,Tryz.ntmps72;go_wp2_with fail;refine(put_any w.heap.size _ 0 [] n (by omega) (by omega) _ (nil_own _ _) (aa _)).mono ?_;rintro e Q ⟨v,j,rfl,r,s⟩;go_wp2;go_loopw [4,13] (λv i wr=>∃k m:Nat,k<=n∧i= .int .i64 k∧wr.ownsRow w.heap.size 5 1 v m ((uvarint n++natsB f k).map b8)∧Below w.heap.size w wr) (λ_ i _=>n-(RowKit.intOf i).toNat)
 case atStart=>exact⟨0,j,by omega,rfl,by simpa[natsB,putV] using r,s⟩
 case round=>
  obtain⟨k,m,F,rfl,a,b⟩:=hrel;clear r s;by_cases c:k<n
  ·obtain⟨G,H,-,h⟩:=(B.o.below b) k c;subst H;replace h:wr.cell? (G.add k)=some (.int .i64 (f k)):=h;have t:=(q.o k c).1;have I:=(q.o k c).2;have J:=hid (natsB_succ f k);have K:m<=100000:=by
    have:=own_len a;rw[aV,al] at this;have:=C.o k F;have:=uv_len n (by omega);omega
   obtain⟨x,l⟩:=dU t;rw[l] at h;have L:=hid l;have u:x<9223372036854775808:=by omega
   clear l t I;go_wp2_with fail;refine(put_any w.heap.size _ m _ x u K _ a b.size).mono ?_;rintro e R ⟨T,M,rfl,y,z⟩;go_wp2;go_roundw
   case rel=>
    refine⟨k+1,M,by omega,by go_num,?_,b.trans z⟩;rw[J.o,L.o,bX,<-aM,bD];exact y
   case measure=>simp[RowKit.intOf];omega
  ·obtain rfl:k=n:=by omega
   have N:(convert 23 9 u4).run Tryz.prog wr= .ok (.string S) wr:=by rw[E.o];exact kx (P:=Tryz.prog) wr 23 9 5 w.heap.size u4 m (uvarint k++natsB f k) df dM fF a
   clear a;go_wp2;go_ret2;exact⟨rfl,b⟩
theorem size_mkB (l:List UInt8):(⟨l.toArray⟩:ByteArray).size=l.length:=by simp[ByteArray.size]
theorem tkIs_ok {l:List UInt8} {n:Nat} {r:List UInt8} (h:Vr.take l= .ok n r):TkIs l n ⟨r.toArray⟩ 0:=by
 obtain⟨a,b,c⟩:=tk_ok h;exact⟨a,by rw[b],c⟩
theorem tkIs_err {l:List UInt8} {e:Nat} (h:Vr.take l= .err e):TkIs l 0 ⟨#[]⟩ e:=by
 obtain⟨a,b,c⟩:=tk_err h;exact⟨a,by rw[b],c⟩
theorem infoI:(Tryz.prog.info? 3).map (λi=>(i.zero,i.size,i.bytes))=some (some (.int .i64 0),1,8):=by kernel_rfl
def intsF (ns:List Nat) (i:Nat):Value:= .int .i64 (ns.getD i 0:Nat)
theorem takeNats_err {l:List UInt8} {c:Nat} (h:Vr.take l= .err c):Vr.takeNats l= .err c:=by unfold Vr.takeNats;rw[h]
theorem takeNats_short {l r:List UInt8} {n:Nat} (h:Vr.take l= .ok n r) (h2:r.length<n):Vr.takeNats l= .err 10:=by unfold Vr.takeNats;rw[h];simp only;rw[aN h2]
theorem takeNats_go {l r:List UInt8} {n:Nat} (h:Vr.take l= .ok n r) (h2:¬r.length<n):Vr.takeNats l=Vr.takeN n r:=by unfold Vr.takeNats;rw[h];simp only;rw[aE h2]
theorem err_ne {l:List UInt8} {c:Nat} (h:Vr.take l= .err c):c≠0:=by have:=Vr.takeF_err _ _ _ _ h;omega
theorem take_le {l r:List UInt8} {n:Nat} (h:Vr.take l= .ok n r):r.length<=l.length:=by have:=(Vr.take_ok h).1;rw[this];simp
end
section
open Go.RowKit Go.Lib
def fN (t:Nat->Nat) (s:ByteArray):ByteArray:=putS s.size++s++⟨(fX (crcOf t s.data.toList)).toArray⟩
theorem four (c:Nat):(⟨(fX c).toArray⟩:ByteArray).size=4:=rfl
structure TabIs (t:Nat->Nat):Prop where
 lt:∀i,i<256->t i<4294967296
theorem crc_lt {t:Nat->Nat} (h:TabIs t) (l:List UInt8):crcOf t l<4294967296:=Crc.xor32 (Crc.sum_lt h.lt l (by decide)) (by decide)
abbrev TabRow (w:World) (A:Option Addr) (t:Nat->Nat):Prop:=Row1 w w.heap.size A 256 (λi=> .int .u32 (t i:Nat))
theorem TabRow.go {w w':World} {A:Option Addr} {t:Nat->Nat} (h:TabRow w A t) (hb:Below w.heap.size w w'):TabRow w' A t:=(h.below hb).more hb.size
theorem of_long (A:Option Addr) (n a:Nat) (s:ByteArray) (b:1048576<s.size) (w:World):
  Calls Tryz.prog 77 #[.slice A n a,s] w λe w'=>e= .returned (.tuple #[.string ⟨#[]⟩,(2:Int)])∧w=w':=by
 have c:(1048576:Int)<(s.size:Int):=by omega
 go_enter Tryz.func77,Tryz.ntmps77;go_wp2;go_ret2;exact⟨rfl,rfl⟩
theorem of_bad (A:Option Addr) (n a:Nat) (b:n≠256) (s:ByteArray) (c:s.size<=1048576) (w:World):
  Calls Tryz.prog 77 #[.slice A n a,s] w λe w'=>e= .returned (.tuple #[.string ⟨#[]⟩,(1:Int)])∧w=w':=by
 have d:¬(1048576:Int)<(s.size:Int):=by omega
 go_enter Tryz.func77,Tryz.ntmps77;go_wp2_with fail;refine(sum_bad A n a b s _).mono ?_;rintro e f ⟨rfl,rfl⟩;go_wp2;go_ret2;exact⟨rfl,rfl⟩
theorem of_ok (A:Option Addr) (d:Nat) (t:Nat->Nat) (g:TabIs t) (s:ByteArray) (o:s.size<=1048576) (w:World) (h:TabRow w A t):
  Calls Tryz.prog 77 #[.slice A 256 d,s] w λe w'=>e= .returned (.tuple #[.string (fN t s),(0:Int)])∧Below w.heap.size w w':=by
 have y:¬(1048576:Int)<(s.size:Int):=by omega
 have p:=hid h;have f:=crc_lt g s.data.toList;obtain⟨C,a⟩:∃C,C=crcOf t s.data.toList:=⟨_,rfl⟩;obtain⟨P,b⟩:∃P,P=putS s.size++s:=⟨_,rfl⟩;obtain⟨B,c⟩:∃B:ByteArray,B=⟨(fX C).toArray⟩:=⟨_,rfl⟩;have i:fN t s=P++B:=by unfold fN;rw[<-a,<-c,<-b]
 rw[i];rw[<-a] at f;have x:P.size<=1048586:=by rw[b,aX];have:=putS_le s.size (by omega);omega
 have j:B.size=4:=by rw[c];rfl
 have q:B.size<=4:=by omega
 have k:Hid (s.size<=maxLen∧s.size<=140737488351232):=hid ⟨by unfold maxLen;omega,by omega⟩;have r:=hid a;have u:=hid b;have v:=hid c;clear h o a b c i j;go_enter Tryz.func77,Tryz.ntmps77;go_wp2_with fail;refine(sum_ok A d t g.lt s k.o.1 _ p.o).mono ?_;rw[<-r.o];rintro e z ⟨rfl,l⟩;go_wp2_with fail;refine(bytes1_any s k.o.2 _).mono ?_;rw[<-u.o];rintro e D ⟨rfl,m⟩;go_wp2_with fail;refine(bytes_any C f _).mono ?_;rw[<-v.o];rintro e E ⟨rfl,n⟩;go_wp2;go_ret2;exact⟨rfl,bt l (bt m n)⟩
end
section
open Go.RowKit Go.Lib
inductive NX where
 |ok (x rest:ByteArray)
 |err (e:Nat)
def sumS (t:Nat->Nat) (x:ByteArray):ByteArray:=⟨(fX (crcOf t x.data.toList)).toArray⟩
open Classical in
noncomputable def gB (t:Nat->Nat) (n:Nat) (R:ByteArray):NX:=
 if 1048576<n then .err 2 else if R.size<n+4 then .err 10 else if sumS t (R.extract 0 n)=R.extract n (n+4) then .ok (R.extract 0 n) (R.extract (n+4) R.size) else .err 30
noncomputable def fE (t:Nat->Nat) (s:ByteArray):NX:=match Vr.take s.data.toList with
 | .err c=> .err c
 | .ok n r=>gB t n ⟨r.toArray⟩
def NxQ (r:NX) (w:World) (e:Ending) (w':World):Prop:=match r with
 | .ok x rest=>e= .returned (.tuple #[x,rest,(0:Int)])∧Below w.heap.size w w'
 | .err c=>e= .returned (.tuple #[.string ⟨#[]⟩,.string ⟨#[]⟩,.int .i64 (c:Nat)])∧Below w.heap.size w w'
theorem jT {r:NX} {c:Nat} (h:r= .err c) {w w':World} (a:Below w.heap.size w w'):NxQ r w (.returned (.tuple #[.string ⟨#[]⟩,.string ⟨#[]⟩,(c:Int)])) w':=by
 subst h;exact⟨rfl,a⟩
theorem NxQ_ok {r:NX} {x y:ByteArray} (h:r= .ok x y) {w w':World} (a:Below w.heap.size w w'):NxQ r w (.returned (.tuple #[x,y,(0:Int)])) w':=by
 subst h;exact⟨rfl,a⟩
theorem next_err {t:Nat->Nat} {s:ByteArray} {c:Nat} (h:Vr.take s.data.toList= .err c):fE t s= .err c:=by unfold fE;rw[h]
theorem next_go {t:Nat->Nat} {s R:ByteArray} {n:Nat} (h:Vr.take s.data.toList= .ok n R.data.toList):fE t s=gB t n R:=by unfold fE;rw[h]
theorem next_2 {t:Nat->Nat} {n:Nat} {R:ByteArray} (h:1048576<n):gB t n R= .err 2:=by unfold gB;rw[aN h]
theorem next_10 {t:Nat->Nat} {n:Nat} {R:ByteArray} (h:¬1048576<n) (h2:R.size<n+4):gB t n R= .err 10:=by unfold gB;rw[aE h,aN h2]
theorem next_30 {t:Nat->Nat} {n:Nat} {R:ByteArray} (h:¬1048576<n) (h2:¬R.size<n+4) (h3:¬sumS t (R.extract 0 n)=R.extract n (n+4)):gB t n R= .err 30:=by unfold gB;rw[aE h,aE h2,aE h3]
theorem next_0 {t:Nat->Nat} {n:Nat} {R:ByteArray} (h:¬1048576<n) (h2:¬R.size<n+4) (h3:sumS t (R.extract 0 n)=R.extract n (n+4)):gB t n R= .ok (R.extract 0 n) (R.extract (n+4) R.size):=by unfold gB;rw[aE h,aE h2,aN h3]
theorem str_ne {a b:ByteArray} (h:¬a=b):(a.toList == b.toList)=false:=by
 rw[aL];intro e;rw[cw,cw] at e;exact h (fH (eR.1 e))
theorem tkIs_ok' {l:List UInt8} {n:Nat} {r:List UInt8} (h:Vr.take l= .ok n r):TkIs l n ⟨r.toArray⟩ 0:=by
 obtain⟨a,b,c⟩:=tk_ok h;exact⟨a,by rw[b],c⟩
theorem tkIs_err' {l:List UInt8} {e:Nat} (h:Vr.take l= .err e):TkIs l 0 ⟨#[]⟩ e:=by
 obtain⟨a,b,c⟩:=tk_err h;exact⟨a,by rw[b],c⟩
theorem next_any (A:Option Addr) (o:Nat) (t:Nat->Nat) (I:TabIs t) (s:ByteArray) (L:s.size<=281474976710656) (w:World) (J:TabRow w A t):
  Calls Tryz.prog 43 #[.slice A 256 o,s] w λe w'=>NxQ (fE t s) w e w':=by
 have M:=hid J;have p:Hid (s.size<=maxLen):=hid (by unfold maxLen;omega);have G:s.data.toList.length=s.size:=by simp
 cases a:Vr.take s.data.toList with
 |err c=>
  have l:=tkIs_err' a;have X:((c:Int) != 0)=true:=by rw[cM];have:=Vr.takeF_err _ _ _ _ a;omega
  have d:=hid (λw'=>@jT _ c (next_err (t:=t) a) w w');generalize fE t s=j at *;clear J L G a;go_enter Tryz.func43,Tryz.ntmps43;go_wp2_with fail;refine(jf s p.o 0 ⟨#[]⟩ c l _).mono ?_;rintro e F ⟨rfl,k,rfl⟩;go_wp2;go_ret3;exact d.o _ (dE (ag _ _) _)
 | ok n r=>
  obtain⟨R,rfl⟩:∃R:ByteArray,R.data.toList=r:=⟨⟨r.toArray⟩,rfl⟩;have l:TkIs s.data.toList n R 0:=tkIs_ok' a;have Y:=(Vr.take_ok a).2;have W:R.size<=281474976710656:=by
   have S:=(Vr.take_ok a).1;have f:R.data.toList.length=R.size:=by simp
   have g:s.data.toList.length=(uvarint n++R.data.toList).length:=by rw[<-S]
   rw[al] at g;omega
  rw[next_go (t:=t) a];clear J L G a;by_cases f:1048576<n
  ·have T:(1048576:Int)<(n:Int):=by omega
   have d:=hid (λw'=>@jT _ 2 (next_2 (t:=t) (R:=R) f) w w');generalize gB t n R=j at *;clear f;go_enter Tryz.func43,Tryz.ntmps43;go_wp2_with fail;refine(jf s p.o n R 0 l _).mono ?_;rintro e F ⟨rfl,k,rfl⟩;go_wp2;go_ret3;exact d.o _ (dE (ag _ _) _)
  have T:¬(1048576:Int)<(n:Int):=by omega
  by_cases g:R.size<n+4
  ·have U:(R.size:Int)<(n:Int)+4:=by omega
   have d:=hid (λw'=>@jT _ 10 (next_10 (t:=t) f g) w w');generalize gB t n R=j at *;clear f g;go_enter Tryz.func43,Tryz.ntmps43;go_wp2_with fail;refine(jf s p.o n R 0 l _).mono ?_;rintro e F ⟨rfl,k,rfl⟩;go_wp2;go_ret3;exact d.o _ (dE (ag _ _) _)
  have U:¬(R.size:Int)<(n:Int)+4:=by omega
  have Z:(0:Int)<=(n:Int):=by omega
  have b1:(n:Int)<=(R.size:Int):=by omega
  have b2:(n:Int)+4<=(R.size:Int):=by omega
  have b3:(n:Int)<=(n:Int)+4:=by omega
  have b4:(0:Int)<=(n:Int)+4:=by omega
  have b5:((n:Int)+4).toNat=n+4:=by omega
  have N:IntKind.i64.wrap ((n:Int)+4)=(n:Int)+4:=cH _ (by omega);have q:(R.extract 0 n).size<=maxLen:=by rw[dg];unfold maxLen;omega
  have O:=hid q;have u:=crc_lt I (R.extract 0 n).data.toList;obtain⟨C,v⟩:∃C,C=crcOf t (R.extract 0 n).data.toList:=⟨_,rfl⟩;obtain⟨B,x⟩:∃B:ByteArray,B=sumS t (R.extract 0 n):=⟨_,rfl⟩;have y:B=⟨(fX C).toArray⟩:=by rw[x,v];rfl
  rw[<-v] at u;have P:=hid v;have H:=hid y;obtain⟨D,m⟩:∃D:ByteArray,D=R.extract n (n+4):=⟨_,rfl⟩;by_cases h:B=D
  ·have d:=hid (λw'=>@NxQ_ok _ _ _ (next_0 (t:=t) f g (by rw[<-x,<-m,h])) w w');generalize gB t n R=j at *;have z:=m;rw[<-h] at z;have Q:=hid z;clear f q v x y m h z g;go_enter Tryz.func43,Tryz.ntmps43;go_wp2_with fail;refine(jf s p.o n R 0 l _).mono ?_;rintro e F ⟨rfl,k,rfl⟩;go_wp2_with fail;go_quiet (fail);clear N;go_wp2_with fail;refine(sum_ok A o t I.lt (R.extract 0 n) O.o _ (by exact M.o)).mono ?_;rw[<-P.o];rintro e V ⟨rfl,b⟩;go_wp2_with fail;refine(bytes_any C u _).mono ?_;rw[<-H.o,Q.o];rintro e K ⟨rfl,i⟩;have E:Below w.heap.size w K:=bt (dE (ag _ _) _) (bt b i);clear b i;go_wp2;go_ret3;exact d.o _ E
  ·have d:=hid (λw'=>@jT _ 30 (next_30 (t:=t) f g (by rw[<-x,<-m];exact h)) w w');generalize gB t n R=j at *;rw[m] at h;have h5:=str_ne h;have H4:=hid h;clear h;clear f q v x y m g;go_enter Tryz.func43,Tryz.ntmps43;go_wp2_with fail;refine(jf s p.o n R 0 l _).mono ?_;rintro e F ⟨rfl,k,rfl⟩;go_wp2_with fail;go_quiet (fail);clear N;go_wp2_with fail;refine(sum_ok A o t I.lt (R.extract 0 n) O.o _ (by exact M.o)).mono ?_;rw[<-P.o];rintro e V ⟨rfl,b⟩;go_wp2_with fail;refine(bytes_any C u _).mono ?_;rw[<-H.o];rintro e K ⟨rfl,i⟩;have E:Below w.heap.size w K:=bt (dE (ag _ _) _) (bt b i);clear b i;go_wp2;go_ret3;exact d.o _ E
end
section
open Go.RowKit Go.Lib
theorem refnext_any (A:Option Addr) (m:Nat) (t:Nat->Nat) (H:TabIs t) (s:ByteArray) (K:s.size<=281474976710656) (w:World) (I:TabRow w A t):
  Calls Tryz.prog 74 #[.slice A 256 m,s] w λe w'=>NxQ (fE t s) w e w':=by
 have L:=hid I;have o:Hid (s.size<=maxLen):=hid (by unfold maxLen;omega);have F:s.data.toList.length=s.size:=by simp
 cases a:Vr.take s.data.toList with
 |err c=>
  have j:=tkIs_err' a;have W:((c:Int) != 0)=true:=by rw[cM];have:=Vr.takeF_err _ _ _ _ a;omega
  have b:=hid (λw'=>@jT _ c (next_err (t:=t) a) w w');generalize fE t s=i at *;clear I K F a;go_enter Tryz.func74,Tryz.ntmps74;go_wp2_with fail;refine(eF s o.o 0 ⟨#[]⟩ c j _).mono ?_;rintro e E ⟨rfl,k,rfl⟩;go_wp2;go_ret3;exact b.o _ (dE (ag _ _) _)
 | ok n r=>
  obtain⟨R,rfl⟩:∃R:ByteArray,R.data.toList=r:=⟨⟨r.toArray⟩,rfl⟩;have j:TkIs s.data.toList n R 0:=tkIs_ok' a;have X:=(Vr.take_ok a).2;have V:R.size<=281474976710656:=by
   have Q:=(Vr.take_ok a).1;have d:R.data.toList.length=R.size:=by simp
   have f:s.data.toList.length=(uvarint n++R.data.toList).length:=by rw[<-Q]
   rw[al] at f;omega
  rw[next_go (t:=t) a];clear I K F a;by_cases d:1048576<n
  ·have S:(1048576:Int)<(n:Int):=by omega
   have b:=hid (λw'=>@jT _ 2 (next_2 (t:=t) (R:=R) d) w w');generalize gB t n R=i at *;clear d;go_enter Tryz.func74,Tryz.ntmps74;go_wp2_with fail;refine(eF s o.o n R 0 j _).mono ?_;rintro e E ⟨rfl,k,rfl⟩;go_wp2;go_ret3;exact b.o _ (dE (ag _ _) _)
  have S:¬(1048576:Int)<(n:Int):=by omega
  by_cases f:R.size<n+4
  ·have T:(R.size:Int)<(n:Int)+4:=by omega
   have b:=hid (λw'=>@jT _ 10 (next_10 (t:=t) d f) w w');generalize gB t n R=i at *;clear d f;go_enter Tryz.func74,Tryz.ntmps74;go_wp2_with fail;refine(eF s o.o n R 0 j _).mono ?_;rintro e E ⟨rfl,k,rfl⟩;go_wp2;go_ret3;exact b.o _ (dE (ag _ _) _)
  have T:¬(R.size:Int)<(n:Int)+4:=by omega
  have Y:(0:Int)<=(n:Int):=by omega
  have Z:(n:Int)<=(R.size:Int):=by omega
  have b2:(n:Int)+4<=(R.size:Int):=by omega
  have b3:(n:Int)<=(n:Int)+4:=by omega
  have b4:(0:Int)<=(n:Int)+4:=by omega
  have b5:((n:Int)+4).toNat=n+4:=by omega
  have M:IntKind.i64.wrap ((n:Int)+4)=(n:Int)+4:=cH _ (by omega);have p:(R.extract 0 n).size<=maxLen:=by rw[dg];unfold maxLen;omega
  have N:=hid p;have q:=crc_lt H (R.extract 0 n).data.toList;obtain⟨C,u⟩:∃C,C=crcOf t (R.extract 0 n).data.toList:=⟨_,rfl⟩;obtain⟨B,v⟩:∃B:ByteArray,B=sumS t (R.extract 0 n):=⟨_,rfl⟩;have x:B=⟨(fX C).toArray⟩:=by rw[v,u];rfl
  rw[<-u] at q;have O:=hid u;have G:=hid x;obtain⟨D,l⟩:∃D:ByteArray,D=R.extract n (n+4):=⟨_,rfl⟩;by_cases g:B=D
  ·have b:=hid (λw'=>@NxQ_ok _ _ _ (next_0 (t:=t) d f (by rw[<-v,<-l,g])) w w');generalize gB t n R=i at *;have y:=l;rw[<-g] at y;have P:=hid y;clear d p u v x l g y f;go_enter Tryz.func74,Tryz.ntmps74;go_wp2_with fail;refine(eF s o.o n R 0 j _).mono ?_;rintro e E ⟨rfl,k,rfl⟩;go_wp2_with fail;refine(refsum_ok A m t H.lt (R.extract 0 n) N.o _ (by exact L.o)).mono ?_;rw[<-O.o];rintro e U ⟨rfl,rfl⟩;go_wp2_with fail;go_region_with (go_at_call 126;refine(refbytes_any C q _).mono ?_;rw[<-G.o,P.o];rintro e J ⟨rfl,h⟩)
   all_goals
    have z:Below w.heap.size w J:=bt (dE (ag _ _) (k+1)) h;clear h;go_wp2;go_quiet (fail);clear M;go_wp2;go_ret3;exact b.o _ (dE z _)
  ·have b:=hid (λw'=>@jT _ 30 (next_30 (t:=t) d f (by rw[<-v,<-l];exact g)) w w');generalize gB t n R=i at *;rw[l] at g;have h5:=str_ne g;have H4:=hid g;clear g;clear d p u v x l f;go_enter Tryz.func74,Tryz.ntmps74;go_wp2_with fail;refine(eF s o.o n R 0 j _).mono ?_;rintro e E ⟨rfl,k,rfl⟩;go_wp2_with fail;refine(refsum_ok A m t H.lt (R.extract 0 n) N.o _ (by exact L.o)).mono ?_;rw[<-O.o];rintro e U ⟨rfl,rfl⟩;go_wp2_with fail;go_region_with (go_at_call 126;refine(refbytes_any C q _).mono ?_;rw[<-G.o];rintro e J ⟨rfl,h⟩)
   all_goals
    clear M;have z:Below w.heap.size w J:=bt (dE (ag _ _) (k+1)) h;clear h;go_wp2;go_ret3;exact b.o _ z
end
section
open Go.RowKit Go.Lib
theorem next_less {t:Nat->Nat} {s x r:ByteArray} (h:fE t s= .ok x r):r.size<s.size:=by
 unfold fE at h;cases a:Vr.take s.data.toList with
 |err c=>rw[a] at h;cases h
 | ok n q=>
  rw[a] at h;simp only[gB] at h;split at h
  ·cases h
  ·split at h
   ·cases h
   ·split at h
    ·injection h with f b;rw[<-b,dg];have d:=(Vr.take_ok a).1;have e:s.data.toList.length=s.size:=by simp
     have g:(⟨q.toArray⟩:ByteArray).size=q.length:=by simp[ByteArray.size]
     rw[d,al] at e;omega
    ·cases h
theorem next_errne {t:Nat->Nat} {s:ByteArray} {c:Nat} (h:fE t s= .err c):c≠0:=by
 unfold fE at h;cases a:Vr.take s.data.toList with
 |err d=>rw[a] at h;injection h with h;subst h;have:=Vr.takeF_err _ _ _ _ a;omega
 | ok n q=>
  rw[a] at h;simp only[gB] at h;split at h
  ·injection h;omega
  ·split at h
   ·injection h;omega
   ·split at h
    ·cases h
    ·injection h;omega
theorem iX {a b:ByteArray} (h:a.data.toList=b.data.toList):a=b:=fH (eR.1 h)
theorem gl (a:ByteArray):a.data.toList.length=a.size:=by simp
theorem fG (a b:ByteArray):(a++b).data.toList=a.data.toList++b.data.toList:=by rw[ByteArray.data_append,Array.toList_append]
theorem bs_pre (s:ByteArray) (k:Nat):(s.extract 0 k).data.toList=s.data.toList.take k:=by
 rw[gQ,iE,fV,List.drop_zero,Nat.sub_zero]
theorem bs_suf (s:ByteArray) (k:Nat):(s.extract k s.size).data.toList=s.data.toList.drop k:=by rw[rest_of]
theorem bs_mid (s:ByteArray) (i j:Nat):(s.extract i j).data.toList=(s.data.toList.drop i).take (j-i):=by
 rw[gQ,iE,fV]
theorem mkS (l:List UInt8):(⟨l.toArray⟩:ByteArray).size=l.length:=by simp[ByteArray.size]
theorem frame_data (t:Nat->Nat) (x:ByteArray):(fN t x).data.toList=uvarint x.size++x.data.toList++(sumS t x).data.toList:=by
 unfold fN sumS;rw[fG,fG];rfl
theorem sum_size (t:Nat->Nat) (x:ByteArray):(sumS t x).size=4:=rfl
theorem iv (t:Nat->Nat) (x:ByteArray):(fN t x).size=(putS x.size++x).size+4:=by
 unfold fN;rw[aX];rfl
theorem kK {t:Nat->Nat} {s x r:ByteArray} (h:fE t s= .ok x r):s=fN t x++r∧x.size<=1048576:=by
 unfold fE at h;cases a:Vr.take s.data.toList with
 |err c=>rw[a] at h;cases h
 | ok n q=>
  rw[a] at h;simp only[gB] at h;obtain⟨R,b⟩:∃R:ByteArray,R=⟨q.toArray⟩:=⟨_,rfl⟩;rw[<-b] at h;split at h
  ·cases h
  ·rename_i hn;split at h
   ·cases h
   ·rename_i hsz;split at h
    ·rename_i hsum;injection h with d e;have f:x.size=n:=by rw[<-d,dg];omega
     refine⟨iX ?_,by omega⟩;have g:=(Vr.take_ok a).1;have i:q=R.data.toList:=by rw[b]
     rw[fG,frame_data,g,f,i,<-e,bs_suf,<-d,hsum,bs_pre,bs_mid];rw[aM,aM];congr 1;rw[show n+4-n=4 by omega,<-List.drop_drop,fe,fe]
    ·cases h
theorem next_frame (t:Nat->Nat) (x r:ByteArray) (g:x.size<=1048576):fE t (fN t x++r)= .ok x r:=by
 have c:(fN t x++r).data.toList=uvarint x.size++(x++sumS t x++r).data.toList:=by
  rw[fG,frame_data,fG,fG];simp only[aM]
 have a:=Vr.take_put x.size (by omega) (x++sumS t x++r).data.toList;rw[<-c] at a;rw[next_go (t:=t) a]
 have b:(x++sumS t x++r).extract 0 x.size=x:=iX (by
  rw[bs_pre,fG,fG,aM,gL (by rw[gl];omega),eB (by rw[gl];omega)])
 have d:(x++sumS t x++r).extract x.size (x.size+4)=sumS t x:=iX (by
  rw[bs_mid,fG,fG,aM,List.drop_append_of_le_length (by rw[gl];omega),List.drop_of_length_le (by rw[gl];omega),List.nil_append,show x.size+4-x.size=4 by omega,
   gL (by rw[gl,sum_size];omega),eB (by rw[gl,sum_size];omega)])
 have e:x.size+4=(x.data.toList++(sumS t x).data.toList).length:=by rw[al,gl,gl,sum_size]
 have f:(x++sumS t x++r).extract (x.size+4) (x++sumS t x++r).size=r:=iX (by
  rw[bs_suf,fG,fG,e,List.drop_left])
 rw[next_0 (by omega) (by rw[aX,aX,sum_size];omega) (by rw[b,d]),b,f]
theorem next_nil {t:Nat->Nat} {s:ByteArray} (h:s.size=0):fE t s= .err 10:=by
 have e:s.data.toList=[]:=cu (by rw[gl];exact h);refine next_err ?_;rw[e];rfl
theorem tabIs:TabIs Crc.tab:=⟨λ_ h=>Crc.tab_lt h⟩
theorem own_tab {w:World} {a:Nat} {v:Value} (h:w.ownsRow a 78 1 v 256 (tabL 256)):∃A cap,v= .slice A 256 cap∧256<=cap∧TabRow w A Crc.tab:=by
 rcases h.2 with⟨_,h0⟩|⟨g,cap,cur,rfl,_,_,hc,_⟩
 ·exact absurd h0 (by decide)
 ·exact⟨_,cap,rfl,hc,Row1.of_own h (λi b=>by simp[tabL,b])⟩
theorem table_f (w:World):Calls Tryz.prog 39 #[false] w λe w'=>∃A cap,e= .returned (.slice A 256 cap)∧TabRow w' A Crc.tab∧Below w.heap.size w w':=by
 go_enter Tryz.func39,Tryz.ntmps39;go_wp2_with fail;refine(jg _).mono ?_;rintro e f ⟨v,rfl,a,c⟩;obtain⟨A,cap,rfl,_,b⟩:=own_tab a;have d:=hid b;clear a b;go_wp2;go_ret;exact⟨A,cap,rfl,d.o,c⟩
theorem table_t (w:World):Calls Tryz.prog 39 #[true] w λe w'=>∃A cap,e= .returned (.slice A 255 cap)∧Below w.heap.size w w':=by
 go_enter Tryz.func39,Tryz.ntmps39;go_wp2_with fail;refine(jg _).mono ?_;rintro e d ⟨v,rfl,a,b⟩;obtain⟨A,cap,rfl,f,c⟩:=own_tab a;clear a c;have g:(255:Int)<=(cap:Int):=by omega
 go_wp2;go_ret;exact⟨A,cap,rfl,b⟩
end
end
section
open Go.RowKit Go.Lib
def grpS (g:Grp):ByteArray:=⟨(grpZ g).toArray⟩
inductive Rec (t:Nat->Nat):Bx->ByteArray->Bx->ByteArray->Prop
 |stop1 {b:Bx} {r:ByteArray} {c:Nat} (h:fE t r= .err c):Rec t b r b r
 |stop2 {b:Bx} {r x r':ByteArray} (h:fE t r= .ok x r') (hd:decZ x.data.toList=none):Rec t b r b r
 |stop3 {b:Bx} {r x r':ByteArray} {g:Grp} (h:fE t r= .ok x r') (hd:decZ x.data.toList=some g) (hn:(du b g).2.1≠1):Rec t b r (du b g).1 r
 |go {b b2:Bx} {r x r' r2:ByteArray} {g:Grp} (h:fE t r= .ok x r') (hd:decZ x.data.toList=some g) (hn:(du b g).2.1=1) (k:Rec t (du b g).1 r' b2 r2):Rec t b r b2 r2
theorem Rec.det {t:Nat->Nat} {b i:Bx} {r j:ByteArray} (h:Rec t b r i j):∀{b3:Bx} {r3:ByteArray},Rec t b r b3 r3->i=b3∧j=r3:=by
 induction h with
 |stop1 h=>
  intro b3 r3 k;cases k with
  |stop1 c=>exact⟨rfl,rfl⟩
  |stop2 c a=>exact⟨rfl,rfl⟩
  |stop3 c a d=>rw[h] at c;cases c
  |go c a d f=>rw[h] at c;cases c
 |stop2 h e=>
  intro b3 r3 k;cases k with
  |stop1 c=>exact⟨rfl,rfl⟩
  |stop2 c a=>exact⟨rfl,rfl⟩
  |stop3 c a d=>rw[h] at c;cases c;rw[e] at a;cases a
  |go c a d f=>rw[h] at c;cases c;rw[e] at a;cases a
 |stop3 h e g=>
  intro b3 r3 k;cases k with
  |stop1 c=>rw[h] at c;cases c
  |stop2 c a=>rw[h] at c;cases c;rw[e] at a;cases a
  |stop3 c a d=>rw[h] at c;cases c;rw[e] at a;cases a;exact⟨rfl,rfl⟩
  |go c a d f=>rw[h] at c;cases c;rw[e] at a;cases a;exact absurd d g
 |go h e g k ih=>
  intro b3 r3 k;cases k with
  |stop1 c=>rw[h] at c;cases c
  |stop2 c a=>rw[h] at c;cases c;rw[e] at a;cases a
  |stop3 c a d=>rw[h] at c;cases c;rw[e] at a;cases a;exact absurd g d
  |go c a d f=>rw[h] at c;cases c;rw[e] at a;cases a;exact ih f
theorem Rec.le {t:Nat->Nat} {b d:Bx} {r a:ByteArray} (h:Rec t b r d a):a.size<=r.size:=by
 induction h with
 |stop1 h=>exact aa _
 |stop2 h c=>exact aa _
 |stop3 h c e=>exact aa _
 |go h c e k ih=>have:=next_less h;omega
def recB (g:Grp):ByteArray:=if chkB g=true∧(grpZ g).length<=1048576 then fN Crc.tab (grpS g) else ⟨#[]⟩
def catR (l:List Grp):ByteArray:=l.foldr (λg s=>recB g++s) ⟨#[]⟩
theorem iw (g:Grp) (l:List Grp):catR (g::l)=recB g++catR l:=rfl
theorem catR_app (l m:List Grp):catR (l++m)=catR l++catR m:=by
 induction l with
 |nil=>show catR m=⟨#[]⟩++catR m;exact iX (by rw[fG];rfl)
 |cons g l ih=>rw[List.cons_append,iw,iw,ih,ByteArray.append_assoc]
theorem catR_snoc (l:List Grp) (g:Grp):catR (l++[g])=catR l++recB g:=by
 rw[catR_app,iw];show _++(recB g++⟨#[]⟩)=_;congr 1;exact iX (by rw[fG];simp)
theorem kz (s:ByteArray):catR []++s=s:=iX (by rw[fG];rfl)
theorem hear_one {b:Bx} {g:Grp} (c:b.wait=[]) (a:(du b g).2.1=1):chkB g=true∧knownB b g=false∧gM b.v g=true∧du b g=(b.put g,1,0):=by
 unfold du at a ⊢;split at a
 ·cases a
 ·rename_i hc;split at a
  ·cases a
  ·rename_i hk;split at a
   ·rename_i hr;rw[aE hc,aE hk,aN hr];refine⟨by simpa using hc,by simpa using hk,hr,?_⟩;rw[c];rfl
   ·split at a<;>cases a
theorem hear_done {b:Bx} {g:Grp} (c:b.wait=[]) (a:(du b g).2.1≠1):(du b g).1.done=b.done:=by
 unfold du at a ⊢;split at a
 ·rename_i hc;rw[aN hc]
 ·rename_i hc;rw[aE hc];split at a
  ·rename_i hk;rw[aN hk]
  ·rename_i hk;rw[aE hk];split at a
   ·rename_i hr;rw[c] at a;exact absurd rfl a
   ·rename_i hr;rw[aE hr];split at a
    ·rename_i h1;rw[aN h1]
    ·rename_i h1;rw[aE h1]
def recOk (g:Grp):Prop:=chkB g=true∧okG g∧(grpZ g).length<=1048576
theorem recOk.rec {g:Grp} (h:recOk g):recB g=fN Crc.tab (grpS g):=aN ⟨h.1,h.2.2⟩
theorem rec_of {x r r':ByteArray} {g:Grp} (h:fE Crc.tab r= .ok x r') (d:decZ x.data.toList=some g):recOk g∧r=recB g++r'∧x=grpS g:=by
 obtain⟨e,f⟩:=kK h;obtain⟨b,i,j⟩:=enc_dec d;have c:x=grpS g:=iX (by rw[b];rfl);have a:recOk g:=⟨i,j,by rw[<-b,gl];exact f⟩;exact⟨a,by rw[a.rec,<-c];exact e,c⟩
theorem Rec.all {b f:Bx} {r l:ByteArray} (h:Rec Crc.tab b r f l) (i:b.wait=[]):∃gs:List Grp,f.done=b.done++gs∧r=catR gs++l∧(∀g∈gs,recOk g)∧
  ∀(r3:ByteArray) (c:Nat),fE Crc.tab r3= .err c->∃b3,Rec Crc.tab b (catR gs++r3) b3 r3∧b3.done=f.done:=by
 induction h with
 |stop1 h=>exact⟨[],by simp,(kz _).symm,λg d=>(by cases d),λr3 c a=>⟨_,by rw[kz];exact .stop1 a,rfl⟩⟩
 |stop2 h j=>exact⟨[],by simp,(kz _).symm,λg d=>(by cases d),λr3 c a=>⟨_,by rw[kz];exact .stop1 a,rfl⟩⟩
 |stop3 h j e=>exact⟨[],by rw[hear_done i e];simp,(kz _).symm,λg d=>(by cases d),λr3 c a=>⟨_,by rw[kz];exact .stop1 a,by rw[hear_done i e]⟩⟩
 | @go b f r x r' l g h j e k ih=>
  obtain⟨A,B,C,o⟩:=hear_one i e;rw[o] at ih k;obtain⟨gs,p,q,s,t⟩:=ih i;obtain⟨m,u,v⟩:=rec_of h j;refine⟨g::gs,?_,?_,?_,?_⟩
  ·rw[p];show(b.done++[g])++gs=_;simp
  ·rw[u,q,iw,ByteArray.append_assoc]
  ·intro y n;rcases dh.1 n with rfl|n
   ·exact m
   ·exact s y n
  ·intro r3 c a;obtain⟨b3,w,z⟩:=t r3 c a;refine⟨b3,?_,z⟩;rw[iw,ByteArray.append_assoc];refine .go (x:=x) (r':=catR gs++r3) (g:=g) ?_ j e ?_
   ·rw[m.rec,v];exact next_frame _ _ _ (by show(grpS g).size<=_;unfold grpS;rw[mkS];exact m.2.2)
   ·rw[o];exact w
theorem Rec.again {a:Bx} {s b:ByteArray} (h:Rec Crc.tab Bx.new s a b):b.size<=s.size∧s.extract 0 (s.size-b.size)=catR a.done∧(∀g∈a.done,recOk g)∧∃b3,Rec Crc.tab Bx.new (catR a.done) b3 ⟨#[]⟩∧b3.done=a.done:=by
 obtain⟨c,d,e,i,j⟩:=h.all rfl;have d:a.done=c:=d;rw[d];have k:=congrArg ByteArray.size e;rw[aX] at k;refine⟨h.le,iX ?_,i,?_⟩
 ·rw[bs_pre,e,fG,aX];rw[show(catR c).size+b.size-b.size=(catR c).data.toList.length by rw[gl];omega,List.take_left]
 ·obtain⟨b3,l,f⟩:=j ⟨#[]⟩ 10 (next_nil rfl);rw[d] at f;refine⟨b3,?_,f⟩;rwa[show catR c++⟨#[]⟩=catR c from iX (by rw[fG];simp)] at l
end
end Go.Proofs.YtkhmicndehlneaaGreatDoor
