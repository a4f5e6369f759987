/- Part 28 of the walks and plain laws that this claim uses, joined. Conditions: as each theorem states. -/
import Derived.Deep.RegionWith
import Derived.Laws.Externs
import Derived.Lib.AppendStr
import Derived.Lib.OthersKept
import Derived.Lib.OwnKind
import Derived.Lib.UnsafeStr
import Derived.Test.YtkhmicndehlneaaGreatDoorYbu
namespace Go.Proofs.YtkhmicndehlneaaGreatDoor
set_option maxRecDepth 100000
set_option maxHeartbeats 16000000
set_option linter.unusedVariables false
section
section
open Go.RowKit Go.Lib
def fO (t:Nat->Nat) (s:ByteArray):ByteArray:=putS s.size++s++⟨(ie (crcOf t s.data.toList)).toArray⟩
theorem four (c:Nat):(⟨(ie c).toArray⟩:ByteArray).size=4:=rfl
structure TabIs (t:Nat->Nat):Prop where
 lt:∀i,i<256->t i<4294967296
theorem crc_lt {t:Nat->Nat} (h:TabIs t) (l:List UInt8):crcOf t l<4294967296:=Crc.xor32 (Crc.sum_lt h.lt l (by decide)) (by decide)
abbrev TabRow (w:World) (A:Option Addr) (t:Nat->Nat):Prop:=Row1 w w.heap.size A 256 (λi=> .int .u32 (t i:Nat))
theorem TabRow.go {w w':World} {A:Option Addr} {t:Nat->Nat} (h:TabRow w A t) (hb:Below w.heap.size w w'):TabRow w' A t:=(h.below hb).more hb.size
theorem of_long (A:Option Addr) (n cap:Nat) (s:ByteArray) (hs:1048576<s.size) (w:World):
  Calls Tryz.prog 77 #[.slice A n cap,s] w λe w'=>e= .returned (.tuple #[.string ⟨#[]⟩,(2:Int)])∧w=w':=by
 have a:(1048576:Int)<(s.size:Int):=by omega
 go_enter Tryz.func77,Tryz.ntmps77;go_wp2;go_ret2;exact⟨rfl,rfl⟩
theorem of_bad (A:Option Addr) (n cap:Nat) (hn:n≠256) (s:ByteArray) (hs:s.size<=1048576) (w:World):
  Calls Tryz.prog 77 #[.slice A n cap,s] w λe w'=>e= .returned (.tuple #[.string ⟨#[]⟩,(1:Int)])∧w=w':=by
 have a:¬(1048576:Int)<(s.size:Int):=by omega
 go_enter Tryz.func77,Tryz.ntmps77;go_wp2_with fail;refine(sum_bad A n cap hn s _).mono ?_;rintro e b ⟨rfl,rfl⟩;go_wp2;go_ret2;exact⟨rfl,rfl⟩
theorem of_ok (A:Option Addr) (cap:Nat) (t:Nat->Nat) (ht:TabIs t) (s:ByteArray) (hs:s.size<=1048576) (w:World) (hR:TabRow w A t):
  Calls Tryz.prog 77 #[.slice A 256 cap,s] w λe w'=>e= .returned (.tuple #[.string (fO t s),(0:Int)])∧Below w.heap.size w w':=by
 have r:¬(1048576:Int)<(s.size:Int):=by omega
 have l:=hid hR;have d:=crc_lt ht s.data.toList;obtain⟨C,a⟩:∃C,C=crcOf t s.data.toList:=⟨_,rfl⟩;obtain⟨P,b⟩:∃P,P=putS s.size++s:=⟨_,rfl⟩;obtain⟨B,c⟩:∃B:ByteArray,B=⟨(ie C).toArray⟩:=⟨_,rfl⟩;have f:fO t s=P++B:=by unfold fO;rw[<-a,<-c,<-b]
 rw[f];rw[<-a] at d;have q:P.size<=1048586:=by rw[b,aZ];have:=putS_le s.size (by omega);omega
 have g:B.size=4:=by rw[c];rfl
 have m:B.size<=4:=by omega
 have h:Hid (s.size<=maxLen∧s.size<=140737488351232):=hid ⟨by unfold maxLen;omega,by omega⟩;have n:=hid a;have o:=hid b;have p:=hid c;clear hR hs a b c f g;go_enter Tryz.func77,Tryz.ntmps77;go_wp2_with fail;refine(sum_ok A cap t ht.lt s h.out.1 _ l.out).mono ?_;rw[<-n.out];rintro e u ⟨rfl,i⟩;go_wp2_with fail;refine(bytes1_any s h.out.2 _).mono ?_;rw[<-o.out];rintro e v ⟨rfl,j⟩;go_wp2_with fail;refine(bytes_any C d _).mono ?_;rw[<-p.out];rintro e x ⟨rfl,k⟩;go_wp2;go_ret2;exact⟨rfl,bt i (bt j k)⟩
end
section
open Go.RowKit Go.Lib
inductive NX where
 |ok (x rest:ByteArray)
 |err (e:Nat)
def sumS (t:Nat->Nat) (x:ByteArray):ByteArray:=⟨(ie (crcOf t x.data.toList)).toArray⟩
open Classical in
noncomputable def iY (t:Nat->Nat) (n:Nat) (R:ByteArray):NX:=
 if 1048576<n then .err 2 else if R.size<n+4 then .err 10 else if sumS t (R.extract 0 n)=R.extract n (n+4) then .ok (R.extract 0 n) (R.extract (n+4) R.size) else .err 30
noncomputable def fZ (t:Nat->Nat) (s:ByteArray):NX:=match Vr.take s.data.toList with
 | .err c=> .err c
 | .ok n r=>iY t n ⟨r.toArray⟩
def NxQ (r:NX) (w:World) (e:Ending) (w':World):Prop:=match r with
 | .ok x rest=>e= .returned (.tuple #[x,rest,(0:Int)])∧Below w.heap.size w w'
 | .err c=>e= .returned (.tuple #[.string ⟨#[]⟩,.string ⟨#[]⟩,.int .i64 (c:Nat)])∧Below w.heap.size w w'
theorem NxQ_err {r:NX} {c:Nat} (h:r= .err c) {w w':World} (hb:Below w.heap.size w w'):NxQ r w (.returned (.tuple #[.string ⟨#[]⟩,.string ⟨#[]⟩,(c:Int)])) w':=by
 subst h;exact⟨rfl,hb⟩
theorem NxQ_ok {r:NX} {x y:ByteArray} (h:r= .ok x y) {w w':World} (hb:Below w.heap.size w w'):NxQ r w (.returned (.tuple #[x,y,(0:Int)])) w':=by
 subst h;exact⟨rfl,hb⟩
theorem next_err {t:Nat->Nat} {s:ByteArray} {c:Nat} (h:Vr.take s.data.toList= .err c):fZ t s= .err c:=by unfold fZ;rw[h]
theorem next_go {t:Nat->Nat} {s R:ByteArray} {n:Nat} (h:Vr.take s.data.toList= .ok n R.data.toList):fZ t s=iY t n R:=by unfold fZ;rw[h]
theorem next_2 {t:Nat->Nat} {n:Nat} {R:ByteArray} (h:1048576<n):iY t n R= .err 2:=by unfold iY;rw[aJ h]
theorem next_10 {t:Nat->Nat} {n:Nat} {R:ByteArray} (h:¬1048576<n) (h2:R.size<n+4):iY t n R= .err 10:=by unfold iY;rw[aC h,aJ h2]
theorem next_30 {t:Nat->Nat} {n:Nat} {R:ByteArray} (h:¬1048576<n) (h2:¬R.size<n+4) (h3:¬sumS t (R.extract 0 n)=R.extract n (n+4)):iY t n R= .err 30:=by unfold iY;rw[aC h,aC h2,aC h3]
theorem next_0 {t:Nat->Nat} {n:Nat} {R:ByteArray} (h:¬1048576<n) (h2:¬R.size<n+4) (h3:sumS t (R.extract 0 n)=R.extract n (n+4)):iY t n R= .ok (R.extract 0 n) (R.extract (n+4) R.size):=by unfold iY;rw[aC h,aC h2,aJ h3]
theorem str_ne {a b:ByteArray} (h:¬a=b):(a.toList == b.toList)=false:=by
 rw[aV];intro e;rw[eS,eS] at e;exact h (fD (eH.1 e))
theorem tkIs_ok' {l:List UInt8} {n:Nat} {r:List UInt8} (h:Vr.take l= .ok n r):TkIs l n ⟨r.toArray⟩ 0:=by
 obtain⟨a,b,c⟩:=tk_ok h;exact⟨a,by rw[b],c⟩
theorem tkIs_err' {l:List UInt8} {e:Nat} (h:Vr.take l= .err e):TkIs l 0 ⟨#[]⟩ e:=by
 obtain⟨a,b,c⟩:=tk_err h;exact⟨a,by rw[b],c⟩
theorem next_any (A:Option Addr) (cap:Nat) (t:Nat->Nat) (ht:TabIs t) (s:ByteArray) (hs:s.size<=281474976710656) (w:World) (hR:TabRow w A t):
  Calls Tryz.prog 43 #[.slice A 256 cap,s] w λe w'=>NxQ (fZ t s) w e w':=by
 have I:=hid hR;have o:Hid (s.size<=maxLen):=hid (by unfold maxLen;omega);have F:s.data.toList.length=s.size:=by simp
 cases a:Vr.take s.data.toList with
 |err c=>
  have l:=tkIs_err' a;have T:((c:Int) != 0)=true:=by rw[eM];have:=Vr.takeF_err _ _ _ _ a;omega
  have d:=hid (λw'=>@NxQ_err _ c (next_err (t:=t) a) w w');generalize fZ t s=j at *;clear hR hs F a;go_enter Tryz.func43,Tryz.ntmps43;go_wp2_with fail;refine(ja s o.out 0 ⟨#[]⟩ c l _).mono ?_;rintro e E ⟨rfl,k,rfl⟩;go_wp2;go_ret3;exact d.out _ (fI (ag _ _) _)
 | ok n r=>
  obtain⟨R,rfl⟩:∃R:ByteArray,R.data.toList=r:=⟨⟨r.toArray⟩,rfl⟩;have l:TkIs s.data.toList n R 0:=tkIs_ok' a;have U:=(Vr.take_ok a).2;have S:R.size<=281474976710656:=by
   have N:=(Vr.take_ok a).1;have f:R.data.toList.length=R.size:=by simp
   have g:s.data.toList.length=(uvarint n++R.data.toList).length:=by rw[<-N]
   rw[al] at g;omega
  rw[next_go (t:=t) a];clear hR hs F a;by_cases f:1048576<n
  ·have O:(1048576:Int)<(n:Int):=by omega
   have d:=hid (λw'=>@NxQ_err _ 2 (next_2 (t:=t) (R:=R) f) w w');generalize iY t n R=j at *;clear f;go_enter Tryz.func43,Tryz.ntmps43;go_wp2_with fail;refine(ja s o.out n R 0 l _).mono ?_;rintro e E ⟨rfl,k,rfl⟩;go_wp2;go_ret3;exact d.out _ (fI (ag _ _) _)
  have O:¬(1048576:Int)<(n:Int):=by omega
  by_cases g:R.size<n+4
  ·have P:(R.size:Int)<(n:Int)+4:=by omega
   have d:=hid (λw'=>@NxQ_err _ 10 (next_10 (t:=t) f g) w w');generalize iY t n R=j at *;clear f g;go_enter Tryz.func43,Tryz.ntmps43;go_wp2_with fail;refine(ja s o.out n R 0 l _).mono ?_;rintro e E ⟨rfl,k,rfl⟩;go_wp2;go_ret3;exact d.out _ (fI (ag _ _) _)
  have P:¬(R.size:Int)<(n:Int)+4:=by omega
  have V:(0:Int)<=(n:Int):=by omega
  have W:(n:Int)<=(R.size:Int):=by omega
  have X:(n:Int)+4<=(R.size:Int):=by omega
  have Y:(n:Int)<=(n:Int)+4:=by omega
  have Z:(0:Int)<=(n:Int)+4:=by omega
  have b5:((n:Int)+4).toNat=n+4:=by omega
  have J:IntKind.i64.wrap ((n:Int)+4)=(n:Int)+4:=ds _ (by omega);have p:(R.extract 0 n).size<=maxLen:=by rw[cI];unfold maxLen;omega
  have K:=hid p;have q:=crc_lt ht (R.extract 0 n).data.toList;obtain⟨C,u⟩:∃C,C=crcOf t (R.extract 0 n).data.toList:=⟨_,rfl⟩;obtain⟨B,v⟩:∃B:ByteArray,B=sumS t (R.extract 0 n):=⟨_,rfl⟩;have x:B=⟨(ie C).toArray⟩:=by rw[v,u];rfl
  rw[<-u] at q;have L:=hid u;have G:=hid x;obtain⟨D,m⟩:∃D:ByteArray,D=R.extract n (n+4):=⟨_,rfl⟩;by_cases h:B=D
  ·have d:=hid (λw'=>@NxQ_ok _ _ _ (next_0 (t:=t) f g (by rw[<-v,<-m,h])) w w');generalize iY t n R=j at *;have y:=m;rw[<-h] at y;have M:=hid y;clear f p u v x m h y g;go_enter Tryz.func43,Tryz.ntmps43;go_wp2_with fail;refine(ja s o.out n R 0 l _).mono ?_;rintro e E ⟨rfl,k,rfl⟩;go_wp2_with fail;go_quiet (fail);clear J;go_wp2_with fail;refine(sum_ok A cap t ht.lt (R.extract 0 n) K.out _ (by exact I.out)).mono ?_;rw[<-L.out];rintro e Q ⟨rfl,b⟩;go_wp2_with fail;refine(bytes_any C q _).mono ?_;rw[<-G.out,M.out];rintro e H ⟨rfl,i⟩;have z:Below w.heap.size w H:=bt (fI (ag _ _) _) (bt b i);clear b i;go_wp2;go_ret3;exact d.out _ z
  ·have d:=hid (λw'=>@NxQ_err _ 30 (next_30 (t:=t) f g (by rw[<-v,<-m];exact h)) w w');generalize iY t n R=j at *;rw[m] at h;have h5:=str_ne h;have H4:=hid h;clear h;clear f p u v x m g;go_enter Tryz.func43,Tryz.ntmps43;go_wp2_with fail;refine(ja s o.out n R 0 l _).mono ?_;rintro e E ⟨rfl,k,rfl⟩;go_wp2_with fail;go_quiet (fail);clear J;go_wp2_with fail;refine(sum_ok A cap t ht.lt (R.extract 0 n) K.out _ (by exact I.out)).mono ?_;rw[<-L.out];rintro e Q ⟨rfl,b⟩;go_wp2_with fail;refine(bytes_any C q _).mono ?_;rw[<-G.out];rintro e H ⟨rfl,i⟩;have z:Below w.heap.size w H:=bt (fI (ag _ _) _) (bt b i);clear b i;go_wp2;go_ret3;exact d.out _ z
end
section
open Go.RowKit Go.Lib
theorem next_errne {t:Nat->Nat} {s:ByteArray} {c:Nat} (h:fZ t s= .err c):c≠0:=by
 unfold fZ at h;cases a:Vr.take s.data.toList with
 |err d=>rw[a] at h;injection h with h;subst h;have:=Vr.takeF_err _ _ _ _ a;omega
 | ok n q=>
  rw[a] at h;simp only[iY] at h;split at h
  ·injection h;omega
  ·split at h
   ·injection h;omega
   ·split at h
    ·cases h
    ·injection h;omega
theorem ir {a b:ByteArray} (h:a.data.toList=b.data.toList):a=b:=fD (eH.1 h)
theorem fR (a:ByteArray):a.data.toList.length=a.size:=by simp
theorem eX (a b:ByteArray):(a++b).data.toList=a.data.toList++b.data.toList:=by rw[ByteArray.data_append,Array.toList_append]
theorem bs_pre (s:ByteArray) (k:Nat):(s.extract 0 k).data.toList=s.data.toList.take k:=by
 rw[gT,iw,fS,List.drop_zero,Nat.sub_zero]
theorem bs_suf (s:ByteArray) (k:Nat):(s.extract k s.size).data.toList=s.data.toList.drop k:=by rw[rest_of]
theorem bs_mid (s:ByteArray) (i j:Nat):(s.extract i j).data.toList=(s.data.toList.drop i).take (j-i):=by
 rw[gT,iw,fS]
theorem mkS (l:List UInt8):(⟨l.toArray⟩:ByteArray).size=l.length:=by simp[ByteArray.size]
theorem frame_data (t:Nat->Nat) (x:ByteArray):(fO t x).data.toList=uvarint x.size++x.data.toList++(sumS t x).data.toList:=by
 unfold fO sumS;rw[eX,eX];rfl
theorem sum_size (t:Nat->Nat) (x:ByteArray):(sumS t x).size=4:=rfl
theorem kF (t:Nat->Nat) (x:ByteArray):(fO t x).size=(putS x.size++x).size+4:=by
 unfold fO;rw[aZ];rfl
theorem next_bytes {t:Nat->Nat} {s x r:ByteArray} (h:fZ t s= .ok x r):s=fO t x++r∧x.size<=1048576:=by
 unfold fZ at h;cases a:Vr.take s.data.toList with
 |err c=>rw[a] at h;cases h
 | ok n q=>
  rw[a] at h;simp only[iY] at h;obtain⟨R,b⟩:∃R:ByteArray,R=⟨q.toArray⟩:=⟨_,rfl⟩;rw[<-b] at h;split at h
  ·cases h
  ·rename_i hn;split at h
   ·cases h
   ·rename_i hsz;split at h
    ·rename_i hsum;injection h with d e;have f:x.size=n:=by rw[<-d,cI];omega
     refine⟨ir ?_,by omega⟩;have g:=(Vr.take_ok a).1;have i:q=R.data.toList:=by rw[b]
     rw[eX,frame_data,g,f,i,<-e,bs_suf,<-d,hsum,bs_pre,bs_mid];rw[aG,aG];congr 1;rw[show n+4-n=4 by omega,<-List.drop_drop,dx,dx]
    ·cases h
theorem next_frame (t:Nat->Nat) (x r:ByteArray) (hx:x.size<=1048576):fZ t (fO t x++r)= .ok x r:=by
 have c:(fO t x++r).data.toList=uvarint x.size++(x++sumS t x++r).data.toList:=by
  rw[eX,frame_data,eX,eX];simp only[aG]
 have a:=Vr.take_put x.size (by omega) (x++sumS t x++r).data.toList;rw[<-c] at a;rw[next_go (t:=t) a]
 have b:(x++sumS t x++r).extract 0 x.size=x:=ir (by
  rw[bs_pre,eX,eX,aG,fe (by rw[fR];omega),di (by rw[fR];omega)])
 have d:(x++sumS t x++r).extract x.size (x.size+4)=sumS t x:=ir (by
  rw[bs_mid,eX,eX,aG,List.drop_append_of_le_length (by rw[fR];omega),List.drop_of_length_le (by rw[fR];omega),List.nil_append,show x.size+4-x.size=4 by omega,
   fe (by rw[fR,sum_size];omega),di (by rw[fR,sum_size];omega)])
 have e:x.size+4=(x.data.toList++(sumS t x).data.toList).length:=by rw[al,fR,fR,sum_size]
 have f:(x++sumS t x++r).extract (x.size+4) (x++sumS t x++r).size=r:=ir (by
  rw[bs_suf,eX,eX,e,List.drop_left])
 rw[next_0 (by omega) (by rw[aZ,aZ,sum_size];omega) (by rw[b,d]),b,f]
theorem next_nil {t:Nat->Nat} {s:ByteArray} (h:s.size=0):fZ t s= .err 10:=by
 have e:s.data.toList=[]:=bR (by rw[fR];exact h);refine next_err ?_;rw[e];rfl
theorem tabIs:TabIs Crc.tab:=⟨λ_ h=>Crc.tab_lt h⟩
theorem own_tab {w:World} {base:Nat} {v:Value} (h:w.ownsRow base 78 1 v 256 (tabL 256)):∃A cap,v= .slice A 256 cap∧256<=cap∧TabRow w A Crc.tab:=by
 rcases h.2 with⟨_,h0⟩|⟨g,cap,cur,rfl,_,_,hc,_⟩
 ·exact absurd h0 (by decide)
 ·exact⟨_,cap,rfl,hc,Row1.of_own h (λi a=>by simp[tabL,a])⟩
end
end
section
open Go.RowKit Go.Lib
def grpS (g:Grp):ByteArray:=⟨(grpZ g).toArray⟩
inductive Rec (t:Nat->Nat):Bx->ByteArray->Bx->ByteArray->Prop
 |stop1 {b:Bx} {r:ByteArray} {c:Nat} (h:fZ t r= .err c):Rec t b r b r
 |stop2 {b:Bx} {r x r':ByteArray} (h:fZ t r= .ok x r') (hd:decZ x.data.toList=none):Rec t b r b r
 |stop3 {b:Bx} {r x r':ByteArray} {g:Grp} (h:fZ t r= .ok x r') (hd:decZ x.data.toList=some g) (hn:(bS b g).2.1≠1):Rec t b r (bS b g).1 r
 |go {b b2:Bx} {r x r' r2:ByteArray} {g:Grp} (h:fZ t r= .ok x r') (hd:decZ x.data.toList=some g) (hn:(bS b g).2.1=1) (k:Rec t (bS b g).1 r' b2 r2):Rec t b r b2 r2
theorem Rec.det {t:Nat->Nat} {b b2:Bx} {r r2:ByteArray} (h:Rec t b r b2 r2):∀{b3:Bx} {r3:ByteArray},Rec t b r b3 r3->b2=b3∧r2=r3:=by
 induction h with
 |stop1 h=>
  intro b3 r3 k;cases k with
  |stop1 c=>exact⟨rfl,rfl⟩
  |stop2 c a=>exact⟨rfl,rfl⟩
  |stop3 c a d=>rw[h] at c;cases c
  |go c a d f=>rw[h] at c;cases c
 |stop2 h e=>
  intro b3 r3 k;cases k with
  |stop1 c=>exact⟨rfl,rfl⟩
  |stop2 c a=>exact⟨rfl,rfl⟩
  |stop3 c a d=>rw[h] at c;cases c;rw[e] at a;cases a
  |go c a d f=>rw[h] at c;cases c;rw[e] at a;cases a
 |stop3 h e g=>
  intro b3 r3 k;cases k with
  |stop1 c=>rw[h] at c;cases c
  |stop2 c a=>rw[h] at c;cases c;rw[e] at a;cases a
  |stop3 c a d=>rw[h] at c;cases c;rw[e] at a;cases a;exact⟨rfl,rfl⟩
  |go c a d f=>rw[h] at c;cases c;rw[e] at a;cases a;exact absurd d g
 |go h e g k ih=>
  intro b3 r3 k;cases k with
  |stop1 c=>rw[h] at c;cases c
  |stop2 c a=>rw[h] at c;cases c;rw[e] at a;cases a
  |stop3 c a d=>rw[h] at c;cases c;rw[e] at a;cases a;exact absurd g d
  |go c a d f=>rw[h] at c;cases c;rw[e] at a;cases a;exact ih f
def recB (g:Grp):ByteArray:=if chkB g=true∧(grpZ g).length<=1048576 then fO Crc.tab (grpS g) else ⟨#[]⟩
def catR (l:List Grp):ByteArray:=l.foldr (λg s=>recB g++s) ⟨#[]⟩
theorem jl (g:Grp) (l:List Grp):catR (g::l)=recB g++catR l:=rfl
theorem catR_app (l m:List Grp):catR (l++m)=catR l++catR m:=by
 induction l with
 |nil=>show catR m=⟨#[]⟩++catR m;exact ir (by rw[eX];rfl)
 |cons g l ih=>rw[List.cons_append,jl,jl,ih,ByteArray.append_assoc]
theorem catR_snoc (l:List Grp) (g:Grp):catR (l++[g])=catR l++recB g:=by
 rw[catR_app,jl];show _++(recB g++⟨#[]⟩)=_;congr 1;exact ir (by rw[eX];simp)
theorem catR_nil (s:ByteArray):catR []++s=s:=ir (by rw[eX];rfl)
theorem hear_one {b:Bx} {g:Grp} (hw:b.wait=[]) (hn:(bS b g).2.1=1):chkB g=true∧iQ b g=false∧fp b.v g=true∧bS b g=(b.put g,1,0):=by
 unfold bS at hn ⊢;split at hn
 ·cases hn
 ·rename_i hc;split at hn
  ·cases hn
  ·rename_i hk;split at hn
   ·rename_i hr;rw[aC hc,aC hk,aJ hr];refine⟨by simpa using hc,by simpa using hk,hr,?_⟩;rw[hw];rfl
   ·split at hn<;>cases hn
theorem hear_done {b:Bx} {g:Grp} (hw:b.wait=[]) (hn:(bS b g).2.1≠1):(bS b g).1.done=b.done:=by
 unfold bS at hn ⊢;split at hn
 ·rename_i hc;rw[aJ hc]
 ·rename_i hc;rw[aC hc];split at hn
  ·rename_i hk;rw[aJ hk]
  ·rename_i hk;rw[aC hk];split at hn
   ·rename_i hr;rw[hw] at hn;exact absurd rfl hn
   ·rename_i hr;rw[aC hr];split at hn
    ·rename_i h1;rw[aJ h1]
    ·rename_i h1;rw[aC h1]
end
section
section
open Go.RowKit Go.Lib Go.Sort
theorem sizeBld:(Tryz.prog.info? 187).map (·.size)=some 2:=by kernel_rfl
theorem liesBld:liesAt Tryz.prog Tryz.prog.depth 189 (2 / Tryz.prog.cellsOf 189) 0 187 1=true:=by kernel_rfl
def Wrt (w:World) (B b:Nat) (l:List UInt8):Prop:=IsBuilder 189 5 B b (byteCells l) w
theorem copy_fresh (b:Nat) (w:World) (h0:w.cell? ⟨b,0,none⟩=some (.pointer none)) (hsh:w.shape? b=some (189,2)) (hfz:w.frozen? ⟨b,0,none⟩=false):
  Calls Tryz.prog 180 #[.pointer (some ⟨b,0,none⟩)] w λe w'=>e= .returned (.tuple #[])∧w'=w.setCell ⟨b,0,none⟩ (.pointer (some ⟨b,0,none⟩)):=by
 obtain⟨j,a,c⟩:=Option.map_eq_some_iff.1 sizeBld;go_enter Tryz.func180,Tryz.ntmps180;go_wp2;rw[Lib.run_to_unsafe w ⟨b,0,none⟩ Tryz.underlying185 Tryz.underlying255 a (by rw[c];decide) hsh (Nat.zero_lt_succ 1)];simp only[Result.andThen];rw[Oper.upon_value];go_wp2;rw[run_callFunc_extern Tryz.func203 (by kernel_rfl) (by kernel_rfl) (by kernel_rfl) (e:=Extern.AbiNoEscape.same) (by kernel_rfl)];rw[Lib.run_noEscape];simp only[Result.andThen];rw[Oper.upon_value];go_wp2;rw[Lib.run_from_unsafe w ⟨b,0,none⟩ Tryz.underlying255 Tryz.underlying185 a hsh liesBld];simp only[Result.andThen];rw[Oper.upon_value];go_wp2;go_end0;exact⟨rfl,rfl⟩
theorem copy_used (b:Nat) (w:World) (h0:w.cell? ⟨b,0,none⟩=some (.pointer (some ⟨b,0,none⟩))):
  Calls Tryz.prog 180 #[.pointer (some ⟨b,0,none⟩)] w λe w'=>e= .returned (.tuple #[])∧w'=w:=by
 obtain⟨j,a,c⟩:=Option.map_eq_some_iff.1 sizeBld;go_enter Tryz.func180,Tryz.ntmps180;go_wp2;rw[Lib.run_neq_ptr_same w _ Tryz.underlying185 a];go_wp2;go_end0;exact⟨rfl,rfl⟩
theorem copy_any (B b:Nat) (l:List UInt8) (w:World) (h:Wrt w B b l):
  Calls Tryz.prog 180 #[.pointer (some ⟨b,0,none⟩)] w λe w'=>e= .returned (.tuple #[])∧BuilderAt 189 5 B b (.pointer (some ⟨b,0,none⟩)) (byteCells l) w'∧Below B w w'∧OthersKept 5 (some b) w w':=by
 rcases h with h|h
 ·refine(copy_fresh b w h.cell0 h.shape h.frozen0).mono ?_;rintro e w' ⟨rfl,rfl⟩;exact⟨rfl,h.used _,(ag B w).setCell (p:=⟨b,0,none⟩) h.1 _,(OthersKept.refl _ _ w).setCell ⟨b,0,none⟩ rfl _⟩
 ·refine(copy_used b w h.cell0).mono ?_;rintro e w' ⟨rfl,rfl⟩;exact⟨rfl,h,ag B _,OthersKept.refl _ _ _⟩
theorem infoB8:(Tryz.prog.info? 5).map (λi=>(i.zero,i.size,i.bytes))=some (some (.int .u8 0),1,1):=by kernel_rfl
theorem strC (s:ByteArray):strCells s=byteCells s.data.toList:=rfl
theorem byteC_app (l m:List UInt8):byteCells l++byteCells m=byteCells (l++m):=by unfold byteCells;rw[bq]
def WrQ (B b:Nat) (l:List UInt8) (w:World) (w':World):Prop:=Wrt w' B b l∧Below B w w'∧OthersKept 5 (some b) w w'
theorem wstr_any (B b:Nat) (l:List UInt8) (s:ByteArray) (w:World) (h:Wrt w B b l) (hlen:l.length+s.size<=140737488355328) (hBw:B<=w.heap.size):
  Calls Tryz.prog 132 #[.pointer (some ⟨b,0,none⟩),s] w λe w'=>e= .returned (.tuple #[.int .i64 s.size,.nilIface])∧WrQ B b (l++s.data.toList) w w':=by
 obtain⟨G,H,q,r,t⟩:=bD infoB8;have u:(byteCells l).length=l.length:=byteCells_length l;go_enter Tryz.func132,Tryz.ntmps132;go_wp2_with (go_at_call 180;refine(copy_any B b l _ h).mono ?_);rintro e o ⟨rfl,I,j,x⟩;obtain⟨y,v,d,c,z⟩:=I;have M:o.cell? ⟨b,0,none⟩=some (.pointer (some ⟨b,0,none⟩)):=by rw[Lib.cell_of_heap d];rfl
 have N:o.cell? ⟨b,1,none⟩=some v:=by rw[Lib.cell_of_heap d];rfl
 go_wp2_with (at_builtin;refine Lib.wpList_append_own_string _ rfl _ _ 23 9 rfl B 5 G dD gn H q r t _ _ _ rfl c s rfl ?c3 ?c4 ?c5 ?_)
 case c3=>unfold maxLen;omega
 case c4=>omega
 case c5=>have:=j.size;omega
 intro J n f a _;have A:b<o.heap.size:=lt_of_block d;have i:n.heap[b]? =some (.cells #[.pointer (some ⟨b,0,none⟩),v] 189 (0,0)):=by
  rw[a.block b A (λe=>z e.symm)];exact d
 have O:n.cell? ⟨b,0,none⟩=some (.pointer (some ⟨b,0,none⟩)):=by rw[Lib.cell_of_heap i];rfl
 have P:n.cell? ⟨b,1,none⟩=some v:=by rw[Lib.cell_of_heap i];rfl
 have Q:n.frozen? ⟨b,1,none⟩=false:=Lib.frozen_of_heap i 1;have C:=hid f;have D:=hid (x.grown a (Lib.ownsRowF_kind (World.ownsRowF_of c)));clear f;obtain⟨E,F,m,rfl⟩:∃E F m,J= .slice E F m:=by
  rcases C.out.2 with⟨hv,_⟩|⟨g,m,cur,hv,_⟩
  ·exact⟨_,_,_,hv⟩
  ·exact⟨_,_,_,hv⟩
 go_wp2;go_ret2;refine⟨rfl,.inr ?_,?_,?_⟩
 ·have K:l.length+s.size=(byteCells l++strCells s).length:=by rw[al,Lib.strCells_length,u]
  have:=Lib.BuilderAt.put (T:=189) (e:=5) y i (bs':=byteCells l++strCells s) (K ▸ C.out) (by decide);rw[strC,byteC_app] at this;exact this
 ·exact(j.grown a (by have:=j.size;omega) (λk L=>(c.lt k L).1)).setCell (p:=⟨b,1,none⟩) y _
 ·exact D.out.setCell ⟨b,1,none⟩ rfl _
theorem cells8:Tryz.prog.cellsOf 5=1:=by kernel_rfl
theorem wstring_any (B b:Nat) (l:List UInt8) (w:World) (h:Wrt w B b l) (h0:l≠[]):
  Calls Tryz.prog 134 #[.pointer (some ⟨b,0,none⟩)] w λe w'=>e= .returned (.string ⟨l.toArray⟩)∧Below B w w':=by
 obtain⟨p,C,v,i,d,t⟩:∃p,BuilderAt 189 5 B b p (byteCells l) w:=by
  rcases h with h|h
  ·exact⟨_,h⟩
  ·exact⟨_,h⟩
 have f:l.length≠0:=by simpa using h0
 rw[byteCells_length] at d;obtain⟨g,a,c,rfl,k,q,u,m,y,o⟩:∃g a c,v= .slice (some ⟨g,0,none⟩) l.length a∧B<=g∧w.heap[g]? =some (.cells c 5 (0,0))∧l.length<=a∧a<=maxLen∧c.size=a*1∧c.toList.take (l.length*1)=byteCells l:=by
  rcases d.2 with⟨_,hz⟩|⟨g,a,c,hv,r⟩
  ·exact absurd hz f
  ·exact⟨g,a,c,hv,r⟩
 have D:w.drew.cell? ⟨b,1,none⟩=some (.slice (some ⟨g,0,none⟩) l.length a):=by
  have:w.drew.heap[b]? =some (.cells #[p,.slice (some ⟨g,0,none⟩) l.length a] 189 (0,0)):=i;rw[cell_of_heap this];rfl
 have z:(Builtin.unsafeSliceData_ #[23] 242 #[.slice (some ⟨g,0,none⟩) l.length a]).run Tryz.prog w.drew= .ok (.pointer (some ⟨g,0,none⟩)) w.drew:=
  Lib.run_unsafeSliceData_row _ _ _ _ _ _ (by omega)
 have A:(Builtin.unsafeString_ #[242,3] 9 #[.pointer (some ⟨g,0,none⟩),.int .i64 l.length]).run Tryz.prog w.drew= .ok (.string ⟨l.toArray⟩) (w.drew.freeze ⟨g,0,none⟩ l.length):=by
  refine Lib.run_unsafeString_row w.drew 242 3 9 5 Tryz.underlying242 cells8 g c.size (by have n:w.drew.heap[g]? =some (.cells c 5 (0,0)):=q;simp[World.shape?,n]) l h0 (by omega) (by unfold maxLen at m;omega) ?_;intro j x s;have:=d.cells (g:=g) rfl j (.int .u8 x.toNat) (by simp[byteCells,s]);exact this
 clear f;go_enter Tryz.func134,Tryz.ntmps134;go_wp2;go_region
 all_goals(go_wp2;go_ret;exact⟨rfl,Lib.below_freeze (Below.drew (ag B w)) (p:=⟨g,0,none⟩) k _⟩)
section
variable {B b : Nat} {l m : List UInt8} {w w1 w2 : World}
theorem WrQ.trans (h:WrQ B b l w w1) (k:WrQ B b m w1 w2):WrQ B b m w w2:=⟨k.1,h.2.1.trans k.2.1,h.2.2.trans k.2.2⟩
theorem Wrt.pt (h:Wrt w B b l):B<=b∧b<w.heap.size:=by
 rcases h with h|h
 ·exact⟨h.1,h.lt⟩
 ·exact⟨h.1,h.lt⟩
theorem BuilderAt.alloc' {T e:TypeId} {p:Value} {bs:List Value} (h:BuilderAt T e B b p bs w) (o:Obj):BuilderAt T e B b p bs (w.alloc o):=by
 have a:=BuilderAt.lt h;obtain⟨c,v,d,f,g⟩:=h;exact⟨c,v,(ax w o b a).trans d,f.alloc o,g⟩
theorem Wrt.alloc (h:Wrt w B b l) (o:Obj):Wrt (w.alloc o) B b l:=by
 rcases h with h|h
 ·exact .inl (BuilderAt.alloc' h o)
 ·exact .inr (BuilderAt.alloc' h o)
theorem BuilderAt.below' {T e:TypeId} {p:Value} {bs:List Value} (h:BuilderAt T e B b p bs w) (hb:Below w.heap.size w w1):BuilderAt T e B b p bs w1:=by
 have a:=BuilderAt.lt h;obtain⟨c,v,d,f,g⟩:=h;exact⟨c,v,(hb.block b a).trans d,f.kept (row:=none) (dg hb) (by cases i:v.ownBlock<;>simp),g⟩
theorem Wrt.below (h:Wrt w B b l) (hb:Below w.heap.size w w1):Wrt w1 B b l:=by
 rcases h with h|h
 ·exact .inl (BuilderAt.below' h hb)
 ·exact .inr (BuilderAt.below' h hb)
theorem OthersKept.below' {e:TypeId} {bo:Option Nat} {a:World} (h:OthersKept e bo a w) (hb:Below w.heap.size w w1):OthersKept e bo a w1:=λk o hk hne ho=>by
 have h1:=h k o hk hne ho
 exact(hb.block k (lt_of_block h1)).trans h1
theorem WrQ.alloc (h:WrQ B b l w w1) (hB:B<=w1.heap.size) (o:Obj):WrQ B b l w (w1.alloc o):=⟨h.1.alloc o,h.2.1.alloc hB o,h.2.2.alloc o⟩
theorem WrQ.below (h:WrQ B b l w w1) (hb:Below w1.heap.size w1 w2):WrQ B b l w w2:=⟨h.1.below hb,h.2.1.trans (hb.mono (aL (aL h.1.pt.1 (Nat.le_of_lt h.1.pt.2)) (aa _))),OthersKept.below' h.2.2 hb⟩
theorem WrQ.refl (h:Wrt w B b l):WrQ B b l w w:=⟨h,ag _ _,OthersKept.refl _ _ _⟩
end
end
section
open Go.RowKit Go.Lib Go.Sort
theorem natv_any (x:Int) (h:x<9223372036854775808) (w:World):
  Calls Tryz.prog 179 #[x] w λe w'=>∃c:Int,e= .returned (.tuple #[.string ⟨(natZ x).toArray⟩,c])∧Below w.heap.size w w':=by
 by_cases a:0<=x
 ·refine(nat_ok x a h w).mono ?_;rintro e w' ⟨rfl,b⟩;exact⟨0,by rw[gK a];rfl,b⟩
 ·refine(nat_bad x (by omega) w).mono ?_;rintro e w' ⟨rfl,rfl⟩;refine⟨1,?_,ag _ _⟩;unfold natZ;rw[aJ (by omega)]
def intsA (xs:List Int):Array Value:=(xs.map (Value.int .i64)).toArray
theorem eV (B b:Nat) (l:List UInt8) (g:Nat) (xs:List Int) (cap:Nat) (w:World) (hx:∀x∈xs,x<9223372036854775808) (hl:l.length+10*xs.length<=140737488355328) (hn:xs.length<=100) (hW:Wrt w B b l) (hg:w.heap[g]? =some (.cells (intsA xs) 3 (0,0))) (hgb:g≠b):
  Calls Tryz.prog 131 #[.pointer (some ⟨b,0,none⟩),.slice (some ⟨g,0,none⟩) xs.length cap] w λe w'=>e= .returned (.tuple #[])∧WrQ B b (l++xs.flatMap natZ) w w':=by
 have F:=hid (WrQ.refl hW);have s:=hid hx;have G:=hid hg;have L:=hW.pt;clear hW hx hg;obtain⟨n,d⟩:∃n,n=xs.length:=⟨_,rfl⟩;rw[<-d] at hl hn ⊢;have t:=hid d;clear d;go_enter Tryz.func131,Tryz.ntmps131;go_wp2;go_loopw [10] (λi wr=>∃k:Nat,k<=n∧i= .int .i64 k∧Hid (WrQ B b (l++(xs.take k).flatMap natZ) w wr)) (λi _=>n-(RowKit.intOf i).toNat)
 case atStart=>exact⟨0,by omega,rfl,hid (by rw[iu,List.flatMap_nil,fV];exact F.out)⟩
 case round=>
  obtain⟨k,O,rfl,j⟩:=hrel;by_cases M:k<n
  ·have f:k<xs.length:=by have:=t.out;omega
   have m:=j.out.2.2 g _ G.out (by intro e;cases e;exact hgb rfl) (by intro c Q e;injection e with _ e _;exact absurd e (by decide));obtain⟨x,a⟩:∃x,x=xs[k]:=⟨_,rfl⟩;have R:wr.cell? ⟨g,k,none⟩=some (.int .i64 x):=by
    rw[crw m,a];simp[intsA,f]
   have o:=s.out x (by rw[a];exact bU _);have N:(natZ x).length<=10:=cZ o;have u:Hid ((⟨(natZ x).toArray⟩:ByteArray).size=(natZ x).length):=hid (by simp[ByteArray.size]);have v:(l++(xs.take k).flatMap natZ).length<=l.length+10*k:=by
    have S:=gM (z:=natZ) (c:=10) (l:=xs.take k) λy H=>cZ (s.out y (dQ H));have I:(xs.take k).length<=k:=List.length_take_le _ _;have T:10*(xs.take k).length<=10*k:=iS _ I;rw[al];omega
   have J:Hid ((l++(xs.take k).flatMap natZ)++natZ x=l++(xs.take (k+1)).flatMap natZ):=by
    show _=_;rw[cv f,aI,bP,a,aG]
   have A:=natv_any x o;clear a m f;obtain⟨P,r⟩:∃P,P=l++(xs.take k).flatMap natZ:=⟨_,rfl⟩;rw[<-r] at v;have C:=hid r;have D:=hid A;clear r A;go_wp2_with fail;refine(D.out _).mono ?_;rintro e K ⟨c,rfl,p⟩;have h:=hid ((show WrQ B b P w wr by rw[C.out];exact j.out).below p);clear p;go_wp2_with fail;refine(wstr_any B b P _ K h.out.1 (by rw[u.out];omega) (by have:=h.out.1.pt;omega)).mono ?_;rintro e U ⟨rfl,q⟩;have E:=hid (h.out.trans q);clear q;go_wp2;go_roundw
   case rel=>exact⟨k+1,by omega,by go_num,hid (by rw[<-J.out,<-C.out];exact E.out)⟩
   case measure=>simp[RowKit.intOf];omega
  ·obtain rfl:k=n:=by omega
   go_wp2;go_end0;exact⟨rfl,by rw[t.out,aK] at j;exact j⟩
theorem iy (B b:Nat) (l:List UInt8) (x:Gid) (w:World) (hx:x.s.t<9223372036854775808∧x.s.r<9223372036854775808∧x.i<9223372036854775808) (hl:l.length+30<=140737488355328) (hW:Wrt w B b l):
  Calls Tryz.prog 181 #[.pointer (some ⟨b,0,none⟩),idV x] w λe w'=>e= .returned (.tuple #[])∧WrQ B b (l++idZ x) w w':=by
 obtain⟨⟨t,r⟩,i⟩:=x;show Calls _ _ #[.pointer (some ⟨b,0,none⟩),.agg #[t,r,i]] w _;have h:=hW.pt;have a:=hid (((WrQ.refl hW).alloc (by omega) (.cells #[t,r,i] 108)).alloc (by simp;omega) (.cells (intsA [t,r,i]) 3));have f:=hid (bn (n:=w.heap.size+1) (w.alloc (.cells #[t,r,i] 108)) (.cells (intsA [t,r,i]) 3) (by simp));have g:=hid hx;clear hW hx;go_enter Tryz.func181,Tryz.ntmps181;go_wp2_with fail;refine(eV B b l (w.heap.size+1) [t,r,i] 3 _ (by have:=g.out;simp only[bY,eZ,or_false];rintro x (rfl|rfl|rfl);exact this.1;exact this.2.1;exact this.2.2) (by simp;omega) (by simp) a.out.1 f.out (by omega)).mono ?_;rintro e w' ⟨rfl,c⟩;have d:=hid (a.out.trans c);clear c;go_wp2;go_end0;refine⟨rfl,?_⟩;have:=d.out;have e:idZ ⟨⟨t,r⟩,i⟩=[t,r,i].flatMap natZ:=by simp[idZ]
 rw[e];exact this
end
section
open Go.RowKit Go.Lib Go.Sort
attribute [local go_sem ↓] Go.wp_at_zero Go.wp_at_succ
theorem WrQ.obj {B b:Nat} {l:List UInt8} {w w1:World} {O:Nat} {c:Array Value} {T:TypeId} (h:WrQ B b l w w1) (ho:w.heap[O]? =some (.cells c T (0,0))) (hb:O≠b) (hT:T≠5):w1.heap[O]? =some (.cells c T (0,0)):=
 h.2.2 O _ ho (by intro e;cases e;exact hb rfl) (by intro c' fz e;injection e with _ e _;exact hT e)
theorem bytesv_any (t:ByteArray) (hs:t.size<=1000000) (w:World):
  Calls Tryz.prog 135 #[t] w λe w'=>∃P:ByteArray,e= .returned (.string P)∧P.data.toList=gl t∧P.size<=1000010∧Below w.heap.size w w':=by
 refine(bytes1_any t (by omega) w).mono ?_;rintro e w' ⟨rfl,b⟩;have a:(putS t.size++t).data.toList=gl t:=by
  rw[ByteArray.data_append,Array.toList_append];rfl
 refine⟨_,rfl,a,?_,b⟩;have c:(putS t.size++t).size=(putS t.size++t).data.toList.length:=by simp
 have d:=eD (s:=t) (by omega);rw[c,a];omega
theorem okD.b {x:Gid} (h:okD x):x.s.t<9223372036854775808∧x.s.r<9223372036854775808∧x.i<9223372036854775808:=⟨h.1.1.2,h.1.2.2,h.2.2⟩
theorem wop_0 (B b:Nat) (l:List UInt8) (nt nr ni pt pr pi:Int) (name:ByteArray) (dir:Bool) (dots:List Gst) (at_ ar ai et er ei:Int) (text:ByteArray) (elems:List Gid) (xd:Option Addr) (xdc:Nat) (xe:Option Addr) (xec:Nat) (w:World)
  (hok:okO ⟨0,⟨⟨nt,nr⟩,ni⟩,⟨⟨pt,pr⟩,pi⟩,name,dir,dots,⟨⟨at_,ar⟩,ai⟩,⟨⟨et,er⟩,ei⟩,text,elems⟩) (hdl:dots.length<=200) (hel:elems.length<=2000) (hnl:name.size<=1000000) (htl:text.size<=1000000) (hl:l.length+3000000<=140737488355328) (hW:Wrt w B b l) (hIn:OpIn w (λk=>k<B) ⟨0,⟨⟨nt,nr⟩,ni⟩,⟨⟨pt,pr⟩,pi⟩,name,dir,dots,⟨⟨at_,ar⟩,ai⟩,⟨⟨et,er⟩,ei⟩,text,elems⟩ ⟨xd,xdc,xe,xec⟩):
  Calls Tryz.prog 133 #[.pointer (some ⟨b,0,none⟩),.agg #[(0:Int),nt,nr,ni,pt,pr,pi,name,dir,.slice xd dots.length xdc,at_,ar,ai,et,er,ei,text,.slice xe elems.length xec]] w λe w'=>e= .returned (.tuple #[])∧WrQ B b (l++opZ ⟨0,⟨⟨nt,nr⟩,ni⟩,⟨⟨pt,pr⟩,pi⟩,name,dir,dots,⟨⟨at_,ar⟩,ai⟩,⟨⟨et,er⟩,ei⟩,text,elems⟩) w w':=by
 obtain⟨-,-,-,t,u,-,D,v,x,-,m⟩:=hok;simp only at t u D v x m;have aq:=hW.pt;have au:=hid hIn;have E:=hid ((WrQ.refl hW).alloc (by omega) (.cells #[(0:Int),nt,nr,ni,pt,pr,pi,name,dir,.slice xd dots.length xdc,at_,ar,ai,et,er,ei,text,.slice xe elems.length xec] 125));have Q:=hid (am w (.cells #[(0:Int),nt,nr,ni,pt,pr,pi,name,dir,.slice xd dots.length xdc,at_,ar,ai,et,er,ei,text,.slice xe elems.length xec] 125));have R:=hid t.b;have S:=hid u.b;have av:=hid D;have aw:=hid v.b;have ay:=hid x.b;have az:=hid m;have T:=d6 t;have U:=d6 u;have V:=d6 v;have W:=d6 x;have aA:=eD (s:=name) (by omega);have aB:=eD (s:=text) (by omega);clear hW hIn t u D v x m;obtain⟨i,n⟩:∃z,z=idZ ⟨⟨nt,nr⟩,ni⟩:=⟨_,rfl⟩;obtain⟨o,p⟩:∃z,z=idZ ⟨⟨pt,pr⟩,pi⟩:=⟨_,rfl⟩;obtain⟨z3,q⟩:∃z,z=idZ ⟨⟨at_,ar⟩,ai⟩:=⟨_,rfl⟩;obtain⟨z4,r⟩:∃z,z=idZ ⟨⟨et,er⟩,ei⟩:=⟨_,rfl⟩;rw[<-n] at T;rw[<-p] at U;rw[<-q] at V;rw[<-r] at W;have F:=hid n;have G:=hid p;have aC:=hid q;have aD:=hid r;clear n p q r;go_enter Tryz.func133,Tryz.ntmps133;have aE:(natZ 0).length<=10:=cZ (by decide);go_wp2_with fail;have H:=hid (E.out.alloc (by have:=E.out.1.pt;omega) (.cells #[(0:Int)] 3))
 refine(eV B b l (w.heap.size+1) [0] 1 _ (by intro y j;simp at j;subst j;decide) (by simp;omega) (by simp) (by exact H.out.1) (by exact bn _ _ (by simp)) (by have:=E.out.1.pt;omega)).mono ?_;rintro e y1 ⟨rfl,a⟩;have K:=hid (show WrQ B b (l++natZ 0) w y1 by have:=H.out.trans (by exact a);simpa using this);have A:=hid (WrQ.obj a ((ax _ _ _ (lt_of_block Q.out)).trans Q.out) (by omega) (by decide));clear a H;have ab:=cw1 A.out;have ac:=cw2 A.out;have ad:=cw3 A.out;go_wp2_with fail;refine(iy B b (l++natZ 0) ⟨⟨nt,nr⟩,ni⟩ _ R.out (by simp;omega) K.out.1).mono ?_;rintro e y2 ⟨rfl,a⟩;have L:=hid (show WrQ B b ((l++natZ 0)++i) w y2 by have:=K.out.trans a;rw[<-F.out] at this;exact this);have c:=hid (a.obj A.out (by omega) (by decide));clear a;have ae:=cw0 c.out;have af:=cw9 c.out;have aa:=cw17 c.out;have ag:=cw4 c.out;have ah:=cw5 c.out;have aj:=cw6 c.out;go_wp2_with fail;refine(iy B b ((l++natZ 0)++i) ⟨⟨pt,pr⟩,pi⟩ _ S.out (by simp;omega) L.out.1).mono ?_;rintro e y3 ⟨rfl,a⟩;have X:=hid (show WrQ B b (((l++natZ 0)++i)++o) w y3 by have:=L.out.trans a;rw[<-G.out] at this;exact this);have C:=hid (a.obj c.out (by omega) (by decide));clear a;have ak:=cw7 C.out;have al:=cw0 C.out;have an:=cw8 C.out;go_upto_region 7 with(fail)
 go_region_with (first
  |(go_at_call 135;refine(bytesv_any name hnl _).mono ?_;rintro e v4 ⟨P,rfl,Y,aF,d⟩;have HP:=hid Y;have I:=hid (X.out.below ⟨d.os,d.tape,d.output,d.size,d.block⟩);have M:=bK d C;clear Y d)
  |(go_at_call 132;refine(wstr_any B b (((l++natZ 0)++i)++o) P _ (by exact I.out.1) (by simp;omega) (by have:=I.out.1.pt;omega)).mono ?_;rintro e N ⟨rfl,a⟩;have g:=hid (show WrQ B b ((((l++natZ 0)++i)++o)++gl name) w N by have:=I.out.trans (by exact a);rw[HP.out] at this;exact this);have h:=hid (WrQ.obj a M.out (by omega) (by decide));clear a))
 have ao:=cw0 h.out;have ap:=cw8 h.out;cases dir with
 |false=>
  go_wp2_with fail;have f:=hid (g.out.alloc (by have:=g.out.1.pt;omega) (.cells #[(0:Int)] 3));refine(eV B b ((((l++natZ 0)++i)++o)++gl name) N.heap.size [0] 1 _ (by intro y j;simp at j;subst j;decide) (by simp;omega) (by simp) (by exact f.out.1) (by exact bn _ _ (by simp)) (by have:=g.out.1.pt;omega)).mono ?_;rintro e O ⟨rfl,a⟩;have J:=hid (show WrQ B b (((((l++natZ 0)++i)++o)++gl name)++natZ 0) w O by have:=f.out.trans (by exact a);simpa using this);have Z:=hid (WrQ.obj a ((ax _ _ _ (lt_of_block h.out)).trans h.out) (by omega) (by decide));clear a f;go_wp2;go_end0;refine⟨rfl,?_⟩;have:=J.out;rw[F.out,G.out] at this;simpa[opZ,aG] using this
 |true=>
  go_wp2_with fail;have f:=hid (g.out.alloc (by have:=g.out.1.pt;omega) (.cells #[(1:Int)] 3));refine(eV B b ((((l++natZ 0)++i)++o)++gl name) N.heap.size [1] 1 _ (by intro y j;simp at j;subst j;decide) (by simp;omega) (by simp) (by exact f.out.1) (by exact bn _ _ (by simp)) (by have:=g.out.1.pt;omega)).mono ?_;rintro e O ⟨rfl,a⟩;have J:=hid (show WrQ B b (((((l++natZ 0)++i)++o)++gl name)++natZ 1) w O by have:=f.out.trans (by exact a);simpa using this);have Z:=hid (WrQ.obj a ((ax _ _ _ (lt_of_block h.out)).trans h.out) (by omega) (by decide));clear a f;go_wp2;go_end0;refine⟨rfl,?_⟩;have:=J.out;rw[F.out,G.out] at this;simpa[opZ,aG] using this
theorem wop_1 (B b:Nat) (l:List UInt8) (nt nr ni pt pr pi:Int) (name:ByteArray) (dir:Bool) (dots:List Gst) (at_ ar ai et er ei:Int) (text:ByteArray) (elems:List Gid) (xd:Option Addr) (xdc:Nat) (xe:Option Addr) (xec:Nat) (w:World)
  (hok:okO ⟨1,⟨⟨nt,nr⟩,ni⟩,⟨⟨pt,pr⟩,pi⟩,name,dir,dots,⟨⟨at_,ar⟩,ai⟩,⟨⟨et,er⟩,ei⟩,text,elems⟩) (hdl:dots.length<=200) (hel:elems.length<=2000) (hnl:name.size<=1000000) (htl:text.size<=1000000) (hl:l.length+3000000<=140737488355328) (hW:Wrt w B b l) (hIn:OpIn w (λk=>k<B) ⟨1,⟨⟨nt,nr⟩,ni⟩,⟨⟨pt,pr⟩,pi⟩,name,dir,dots,⟨⟨at_,ar⟩,ai⟩,⟨⟨et,er⟩,ei⟩,text,elems⟩ ⟨xd,xdc,xe,xec⟩):
  Calls Tryz.prog 133 #[.pointer (some ⟨b,0,none⟩),.agg #[(1:Int),nt,nr,ni,pt,pr,pi,name,dir,.slice xd dots.length xdc,at_,ar,ai,et,er,ei,text,.slice xe elems.length xec]] w λe w'=>e= .returned (.tuple #[])∧WrQ B b (l++opZ ⟨1,⟨⟨nt,nr⟩,ni⟩,⟨⟨pt,pr⟩,pi⟩,name,dir,dots,⟨⟨at_,ar⟩,ai⟩,⟨⟨et,er⟩,ei⟩,text,elems⟩) w w':=by
 obtain⟨-,-,-,m,n,-,t,o,p,-,f⟩:=hok;simp only at m n t o p f;have al:=hW.pt;have an:=hid hIn;have u:=hid ((WrQ.refl hW).alloc (by omega) (.cells #[(1:Int),nt,nr,ni,pt,pr,pi,name,dir,.slice xd dots.length xdc,at_,ar,ai,et,er,ei,text,.slice xe elems.length xec] 125));have J:=hid (am w (.cells #[(1:Int),nt,nr,ni,pt,pr,pi,name,dir,.slice xd dots.length xdc,at_,ar,ai,et,er,ei,text,.slice xe elems.length xec] 125));have K:=hid m.b;have L:=hid n.b;have ao:=hid t;have ap:=hid o.b;have aq:=hid p.b;have au:=hid f;have M:=d6 m;have N:=d6 n;have O:=d6 o;have Q:=d6 p;have av:=eD (s:=name) (by omega);have aw:=eD (s:=text) (by omega);clear hW hIn m n t o p f;obtain⟨v,g⟩:∃z,z=idZ ⟨⟨nt,nr⟩,ni⟩:=⟨_,rfl⟩;obtain⟨H,h⟩:∃z,z=idZ ⟨⟨pt,pr⟩,pi⟩:=⟨_,rfl⟩;obtain⟨z3,i⟩:∃z,z=idZ ⟨⟨at_,ar⟩,ai⟩:=⟨_,rfl⟩;obtain⟨z4,j⟩:∃z,z=idZ ⟨⟨et,er⟩,ei⟩:=⟨_,rfl⟩;rw[<-g] at M;rw[<-h] at N;rw[<-i] at O;rw[<-j] at Q;have C:=hid g;have D:=hid h;have ay:=hid i;have az:=hid j;clear g h i j;go_enter Tryz.func133,Tryz.ntmps133;have aA:(natZ 1).length<=10:=cZ (by decide);go_wp2_with fail;have x:=hid (u.out.alloc (by have:=u.out.1.pt;omega) (.cells #[(1:Int)] 3))
 refine(eV B b l (w.heap.size+1) [1] 1 _ (by intro y R;simp at R;subst R;decide) (by simp;omega) (by simp) (by exact x.out.1) (by exact bn _ _ (by simp)) (by have:=u.out.1.pt;omega)).mono ?_;rintro e W ⟨rfl,a⟩;have E:=hid (show WrQ B b (l++natZ 1) w W by have:=x.out.trans (by exact a);simpa using this);have q:=hid (WrQ.obj a ((ax _ _ _ (lt_of_block J.out)).trans J.out) (by omega) (by decide));clear a x;have X:=cw1 q.out;have Y:=cw2 q.out;have Z:=cw3 q.out;go_wp2_with fail;refine(iy B b (l++natZ 1) ⟨⟨nt,nr⟩,ni⟩ _ K.out (by simp;omega) E.out.1).mono ?_;rintro e y2 ⟨rfl,a⟩;have F:=hid (show WrQ B b ((l++natZ 1)++v) w y2 by have:=E.out.trans a;rw[<-C.out] at this;exact this);have c:=hid (a.obj q.out (by omega) (by decide));clear a;have aa:=cw0 c.out;have ab:=cw9 c.out;have V:=cw17 c.out;have ac:=cw4 c.out;have ad:=cw5 c.out;have ae:=cw6 c.out;go_wp2_with fail;refine(iy B b ((l++natZ 1)++v) ⟨⟨pt,pr⟩,pi⟩ _ L.out (by simp;omega) F.out.1).mono ?_;rintro e y3 ⟨rfl,a⟩;have S:=hid (show WrQ B b (((l++natZ 1)++v)++H) w y3 by have:=F.out.trans a;rw[<-D.out] at this;exact this);have r:=hid (a.obj c.out (by omega) (by decide));clear a;have af:=cw7 r.out;have ag:=cw0 r.out;have ah:=cw8 r.out;go_upto_region 7 with(fail)
 go_region_with (first
  |(go_at_call 135;refine(bytesv_any name hnl _).mono ?_;rintro e v4 ⟨P,rfl,T,aB,d⟩;have HP:=hid T;have A:=hid (S.out.below ⟨d.os,d.tape,d.output,d.size,d.block⟩);have I:=bK d r;clear T d)
  |(go_at_call 132;refine(wstr_any B b (((l++natZ 1)++v)++H) P _ (by exact A.out.1) (by simp;omega) (by have:=A.out.1.pt;omega)).mono ?_;rintro e y4 ⟨rfl,a⟩;have U:=hid (show WrQ B b ((((l++natZ 1)++v)++H)++gl name) w y4 by have:=A.out.trans (by exact a);rw[HP.out] at this;exact this);have G:=hid (WrQ.obj a I.out (by omega) (by decide));clear a))
 have aj:=cw0 G.out;have ak:=cw8 G.out;go_wp2;go_end0;refine⟨rfl,?_⟩;have:=U.out;rw[C.out,D.out] at this;simpa[opZ,aG] using this
theorem wop_2 (B b:Nat) (l:List UInt8) (nt nr ni pt pr pi:Int) (name:ByteArray) (dir:Bool) (dots:List Gst) (at_ ar ai et er ei:Int) (text:ByteArray) (elems:List Gid) (xd:Option Addr) (xdc:Nat) (xe:Option Addr) (xec:Nat) (w:World)
  (hok:okO ⟨2,⟨⟨nt,nr⟩,ni⟩,⟨⟨pt,pr⟩,pi⟩,name,dir,dots,⟨⟨at_,ar⟩,ai⟩,⟨⟨et,er⟩,ei⟩,text,elems⟩) (hdl:dots.length<=200) (hel:elems.length<=2000) (hnl:name.size<=1000000) (htl:text.size<=1000000) (hl:l.length+3000000<=140737488355328) (hW:Wrt w B b l) (hIn:OpIn w (λk=>k<B) ⟨2,⟨⟨nt,nr⟩,ni⟩,⟨⟨pt,pr⟩,pi⟩,name,dir,dots,⟨⟨at_,ar⟩,ai⟩,⟨⟨et,er⟩,ei⟩,text,elems⟩ ⟨xd,xdc,xe,xec⟩):
  Calls Tryz.prog 133 #[.pointer (some ⟨b,0,none⟩),.agg #[(2:Int),nt,nr,ni,pt,pr,pi,name,dir,.slice xd dots.length xdc,at_,ar,ai,et,er,ei,text,.slice xe elems.length xec]] w λe w'=>e= .returned (.tuple #[])∧WrQ B b (l++opZ ⟨2,⟨⟨nt,nr⟩,ni⟩,⟨⟨pt,pr⟩,pi⟩,name,dir,dots,⟨⟨at_,ar⟩,ai⟩,⟨⟨et,er⟩,ei⟩,text,elems⟩) w w':=by
 obtain⟨-,-,-,r,t,-,D,u,v,-,g⟩:=hok;simp only at r t D u v g;have aH:=hW.pt;have aa:=hid hIn;have E:=hid ((WrQ.refl hW).alloc (by omega) (.cells #[(2:Int),nt,nr,ni,pt,pr,pi,name,dir,.slice xd dots.length xdc,at_,ar,ai,et,er,ei,text,.slice xe elems.length xec] 125));have HA:=hid (am w (.cells #[(2:Int),nt,nr,ni,pt,pr,pi,name,dir,.slice xd dots.length xdc,at_,ar,ai,et,er,ei,text,.slice xe elems.length xec] 125));have ac:=hid r.b;have aJ:=hid t.b;have T:=hid D;have aL:=hid u.b;have aM:=hid v.b;have aN:=hid g;have ad:=d6 r;have af:=d6 t;have ag:=d6 u;have ah:=d6 v;have aO:=eD (s:=name) (by omega);have aP:=eD (s:=text) (by omega);clear hW hIn r t D u v g;obtain⟨N,h⟩:∃z,z=idZ ⟨⟨nt,nr⟩,ni⟩:=⟨_,rfl⟩;obtain⟨z2,m⟩:∃z,z=idZ ⟨⟨pt,pr⟩,pi⟩:=⟨_,rfl⟩;obtain⟨z3,o⟩:∃z,z=idZ ⟨⟨at_,ar⟩,ai⟩:=⟨_,rfl⟩;obtain⟨z4,p⟩:∃z,z=idZ ⟨⟨et,er⟩,ei⟩:=⟨_,rfl⟩;rw[<-h] at ad;rw[<-m] at af;rw[<-o] at ag;rw[<-p] at ah;have U:=hid h;have aQ:=hid m;have aR:=hid o;have aS:=hid p;clear h m o p;go_enter Tryz.func133,Tryz.ntmps133;have aj:(natZ 2).length<=10:=cZ (by decide);go_wp2_with fail;have F:=hid (E.out.alloc (by have:=E.out.1.pt;omega) (.cells #[(2:Int)] 3))
 refine(eV B b l (w.heap.size+1) [2] 1 _ (by intro y q;simp at q;subst q;decide) (by simp;omega) (by simp) (by exact F.out.1) (by exact bn _ _ (by simp)) (by have:=E.out.1.pt;omega)).mono ?_;rintro e y1 ⟨rfl,a⟩;have V:=hid (show WrQ B b (l++natZ 2) w y1 by have:=F.out.trans (by exact a);simpa using this);have A:=hid (WrQ.obj a ((ax _ _ _ (lt_of_block HA.out)).trans HA.out) (by omega) (by decide));clear a F;have aA:=cw1 A.out;have aB:=cw2 A.out;have aC:=cw3 A.out;go_wp2_with fail;refine(iy B b (l++natZ 2) ⟨⟨nt,nr⟩,ni⟩ _ ac.out (by simp;omega) V.out.1).mono ?_;rintro e y2 ⟨rfl,a⟩;have G:=hid (show WrQ B b ((l++natZ 2)++N) w y2 by have:=V.out.trans a;rw[<-U.out] at this;exact this);have f:=hid (a.obj A.out (by omega) (by decide));clear a;have aD:=cw0 f.out;have aE:=cw9 f.out;have ay:=cw17 f.out;go_wp2_with fail;have H:=hid (G.out.alloc (by have:=G.out.1.pt;omega) (.cells #[(dots.length:Int)] 3));refine(eV B b ((l++natZ 2)++N) y2.heap.size [(dots.length:Int)] 1 _ (by intro y q;simp at q;subst q;omega) (by simp;omega) (by simp) (by exact H.out.1) (by exact bn _ _ (by simp)) (by have:=G.out.1.pt;omega)).mono ?_;rintro e y3 ⟨rfl,a⟩;have ak:=hid (show WrQ B b (((l++natZ 2)++N)++natZ dots.length) w y3 by have:=H.out.trans (by exact a);simpa using this)
 have I:=hid (WrQ.obj a ((ax _ _ _ (lt_of_block f.out)).trans f.out) (by omega) (by decide));clear a H;have Y:=cw9 I.out;have az:=cw17 I.out;have aF:=cw0 I.out;have ap:(natZ (dots.length:Int)).length<=10:=cZ (by omega);obtain⟨n,Z⟩:∃n,n=dots.length:=⟨_,rfl⟩;obtain⟨P,hP⟩:∃P,P=(((l++natZ 2)++N)++natZ dots.length):=⟨_,rfl⟩;have aT:P.length<=l.length+50:=by rw[hP];simp;omega
 have HP:=hid hP;have HN:=hid Z;clear hP;rw[<-Z] at hdl Y;clear Z ap aj;have aq:=hid (show WrQ B b P w y3 by rw[HP.out];exact ak.out);have hN:(dots.length:Int)=(n:Int):=by rw[HN.out]
 try rw[hN]
 clear hN;go_upto_region 16 with(fail);go_loopw [54] (λi wr=>∃j:Nat,j<=n∧i= .int .i64 j∧Hid (WrQ B b (P++(dots.take j).flatMap stZ) w wr)) (λi _=>n-(RowKit.intOf i).toNat)
 case atStart=>exact⟨0,by omega,rfl,hid (by rw[iu,List.flatMap_nil,fV];exact aq.out)⟩
 case round=>
  obtain⟨j,hj,rfl,O⟩:=hrel;by_cases aU:j<n
  ·have d:j<dots.length:=by have:=HN.out;omega
   obtain⟨ab,ao,rfl,-,aV,d0,d1⟩:=StsS.at_ (RowG.agr aa.out.dots ⟨O.out.2.1.size,λk hk _=>O.out.2.1.block k hk⟩) (k:=j) d;obtain⟨x,Q⟩:∃x,x=dots.getD j .zero:=⟨_,rfl⟩;simp only[<-Q] at d0 d1;have W:x∈dots:=by rw[Q,ae,an d];exact bU d
   have J:=T.out.2 x W;have HT:=hid (show(P++(dots.take j).flatMap stZ)++stZ x=P++(dots.take (j+1)).flatMap stZ by rw[cv d,aI,bP,Q,ae,an d,aG];rfl);have au:(P++(dots.take j).flatMap stZ).length<=P.length+20*n:=by
    have h1:=gM (z:=stZ) (c:=20) (l:=dots.take j) λy q=>stZ_le (T.out.2 y (dQ q));have h2:(dots.take j).length<=n:=by have:=List.length_take_le j dots;omega
    have h3:20*(dots.take j).length<=20*n:=iS _ h2;rw[al];omega
   have K:x.t<9223372036854775808∧x.r<9223372036854775808:=⟨J.1.2,J.2.2⟩;obtain⟨R,S⟩:=x;simp only at d0 d1 K;obtain⟨L,M⟩:∃L,L=P++(dots.take j).flatMap stZ:=⟨_,rfl⟩;rw[<-M] at au;have X:=hid M;have av:=hid K;clear M Q W J d K;have C:=hid (show WrQ B b L w wr by rw[X.out];exact O.out);have HK:=hid ((C.out.alloc (by have:=C.out.1.pt;omega) (.cells #[R,S] 42)).alloc (by have:=C.out.1.pt;simp;omega) (.cells (intsA [R,S]) 3));go_wp2_with fail;refine(eV B b L (wr.heap.size+1) [R,S] 2 _ (by have:=av.out;simp only[bY,eZ,or_false];rintro x (rfl|rfl);exact this.1;exact this.2) (by simp;omega) (by simp) HK.out.1 (bn _ _ (by simp)) (by have:=C.out.1.pt;omega)).mono ?_;rintro e w3 ⟨rfl,a⟩;have aw:=hid (show WrQ B b (L++stZ ⟨R,S⟩) w w3 by have:=HK.out.trans a;simpa[stZ] using this);clear a;go_wp2;go_roundw
   case rel=>exact⟨j+1,by omega,by go_num,hid (by rw[<-HT.out,<-X.out];exact aw.out)⟩
   case measure=>simp[RowKit.intOf];omega
  ·obtain rfl:j=n:=by omega
   go_wp2;go_end0;refine⟨rfl,?_⟩;have:=O.out;rw[HN.out,aK,HP.out,U.out] at this;simpa[opZ,aG] using this
theorem wop_3 (B b:Nat) (l:List UInt8) (nt nr ni pt pr pi:Int) (name:ByteArray) (dir:Bool) (dots:List Gst) (at_ ar ai et er ei:Int) (text:ByteArray) (elems:List Gid) (xd:Option Addr) (xdc:Nat) (xe:Option Addr) (xec:Nat) (w:World)
  (hok:okO ⟨3,⟨⟨nt,nr⟩,ni⟩,⟨⟨pt,pr⟩,pi⟩,name,dir,dots,⟨⟨at_,ar⟩,ai⟩,⟨⟨et,er⟩,ei⟩,text,elems⟩) (hdl:dots.length<=200) (hel:elems.length<=2000) (hnl:name.size<=1000000) (htl:text.size<=1000000) (hl:l.length+3000000<=140737488355328) (hW:Wrt w B b l) (hIn:OpIn w (λk=>k<B) ⟨3,⟨⟨nt,nr⟩,ni⟩,⟨⟨pt,pr⟩,pi⟩,name,dir,dots,⟨⟨at_,ar⟩,ai⟩,⟨⟨et,er⟩,ei⟩,text,elems⟩ ⟨xd,xdc,xe,xec⟩):
  Calls Tryz.prog 133 #[.pointer (some ⟨b,0,none⟩),.agg #[(3:Int),nt,nr,ni,pt,pr,pi,name,dir,.slice xd dots.length xdc,at_,ar,ai,et,er,ei,text,.slice xe elems.length xec]] w λe w'=>e= .returned (.tuple #[])∧WrQ B b (l++opZ ⟨3,⟨⟨nt,nr⟩,ni⟩,⟨⟨pt,pr⟩,pi⟩,name,dir,dots,⟨⟨at_,ar⟩,ai⟩,⟨⟨et,er⟩,ei⟩,text,elems⟩) w w':=by
 obtain⟨-,-,-,n,o,-,u,p,q,-,f⟩:=hok;simp only at n o u p q f;have aq:=hW.pt;have au:=hid hIn;have v:=hid ((WrQ.refl hW).alloc (by omega) (.cells #[(3:Int),nt,nr,ni,pt,pr,pi,name,dir,.slice xd dots.length xdc,at_,ar,ai,et,er,ei,text,.slice xe elems.length xec] 125));have M:=hid (am w (.cells #[(3:Int),nt,nr,ni,pt,pr,pi,name,dir,.slice xd dots.length xdc,at_,ar,ai,et,er,ei,text,.slice xe elems.length xec] 125));have N:=hid n.b;have av:=hid o.b;have aw:=hid u;have O:=hid p.b;have Q:=hid q.b;have ay:=hid f;have R:=d6 n;have S:=d6 o;have T:=d6 p;have U:=d6 q;have az:=eD (s:=name) (by omega);have aA:=eD (s:=text) (by omega);clear hW hIn n o u p q f;obtain⟨g,h⟩:∃z,z=idZ ⟨⟨nt,nr⟩,ni⟩:=⟨_,rfl⟩;obtain⟨z2,i⟩:∃z,z=idZ ⟨⟨pt,pr⟩,pi⟩:=⟨_,rfl⟩;obtain⟨x,j⟩:∃z,z=idZ ⟨⟨at_,ar⟩,ai⟩:=⟨_,rfl⟩;obtain⟨K,m⟩:∃z,z=idZ ⟨⟨et,er⟩,ei⟩:=⟨_,rfl⟩;rw[<-h] at R;rw[<-i] at S;rw[<-j] at T;rw[<-m] at U;have D:=hid h;have aB:=hid i;have E:=hid j;have F:=hid m;clear h i j m;go_enter Tryz.func133,Tryz.ntmps133;have aC:(natZ 3).length<=10:=cZ (by decide);go_wp2_with fail;have A:=hid (v.out.alloc (by have:=v.out.1.pt;omega) (.cells #[(3:Int)] 3))
 refine(eV B b l (w.heap.size+1) [3] 1 _ (by intro y V;simp at V;subst V;decide) (by simp;omega) (by simp) (by exact A.out.1) (by exact bn _ _ (by simp)) (by have:=v.out.1.pt;omega)).mono ?_;rintro e y1 ⟨rfl,a⟩;have G:=hid (show WrQ B b (l++natZ 3) w y1 by have:=A.out.trans (by exact a);simpa using this);have r:=hid (WrQ.obj a ((ax _ _ _ (lt_of_block M.out)).trans M.out) (by omega) (by decide));clear a A;have aj:=cw1 r.out;have ak:=cw2 r.out;have al:=cw3 r.out;go_wp2_with fail;refine(iy B b (l++natZ 3) ⟨⟨nt,nr⟩,ni⟩ _ N.out (by simp;omega) G.out.1).mono ?_;rintro e y2 ⟨rfl,a⟩;have H:=hid (show WrQ B b ((l++natZ 3)++g) w y2 by have:=G.out.trans a;rw[<-D.out] at this;exact this);have c:=hid (a.obj r.out (by omega) (by decide));clear a;have an:=cw0 c.out;have ao:=cw9 c.out;have aa:=cw17 c.out;have ab:=cw10 c.out;have ac:=cw11 c.out;have ad:=cw12 c.out;go_wp2_with fail;refine(iy B b ((l++natZ 3)++g) ⟨⟨at_,ar⟩,ai⟩ _ O.out (by simp;omega) H.out.1).mono ?_;rintro e y3 ⟨rfl,a⟩;have I:=hid (show WrQ B b (((l++natZ 3)++g)++x) w y3 by have:=H.out.trans a;rw[<-E.out] at this;exact this);have t:=hid (a.obj c.out (by omega) (by decide));clear a;have ae:=cw13 t.out;have af:=cw14 t.out;have ag:=cw15 t.out;go_wp2_with fail;refine(iy B b (((l++natZ 3)++g)++x) ⟨⟨et,er⟩,ei⟩ _ Q.out (by simp;omega) I.out.1).mono ?_
 rintro e y4 ⟨rfl,a⟩;have W:=hid (show WrQ B b ((((l++natZ 3)++g)++x)++K) w y4 by have:=I.out.trans a;rw[<-F.out] at this;exact this);have J:=hid (a.obj t.out (by omega) (by decide));clear a;have ah:=cw16 J.out;go_upto_region 23 with(fail)
 go_region_with (first
  |(go_at_call 135;refine(bytesv_any text htl _).mono ?_;rintro e v5 ⟨P,rfl,X,aD,d⟩;have HP:=hid X;have C:=hid (W.out.below ⟨d.os,d.tape,d.output,d.size,d.block⟩);have L:=bK d J;clear X d)
  |(go_at_call 132;refine(wstr_any B b ((((l++natZ 3)++g)++x)++K) P _ (by exact C.out.1) (by simp;omega) (by have:=C.out.1.pt;omega)).mono ?_;rintro e y5 ⟨rfl,a⟩;have Y:=hid (show WrQ B b (((((l++natZ 3)++g)++x)++K)++gl text) w y5 by have:=C.out.trans (by exact a);rw[HP.out] at this;exact this);have Z:=hid (WrQ.obj a L.out (by omega) (by decide));clear a))
 have ap:=cw0 Z.out;go_wp2;go_end0;refine⟨rfl,?_⟩;have:=Y.out;rw[D.out,E.out,F.out] at this;simpa[opZ,aG] using this
theorem wop_4 (B b:Nat) (l:List UInt8) (nt nr ni pt pr pi:Int) (name:ByteArray) (dir:Bool) (dots:List Gst) (at_ ar ai et er ei:Int) (text:ByteArray) (elems:List Gid) (xd:Option Addr) (xdc:Nat) (xe:Option Addr) (xec:Nat) (w:World)
  (hok:okO ⟨4,⟨⟨nt,nr⟩,ni⟩,⟨⟨pt,pr⟩,pi⟩,name,dir,dots,⟨⟨at_,ar⟩,ai⟩,⟨⟨et,er⟩,ei⟩,text,elems⟩) (hdl:dots.length<=200) (hel:elems.length<=2000) (hnl:name.size<=1000000) (htl:text.size<=1000000) (hl:l.length+3000000<=140737488355328) (hW:Wrt w B b l) (hIn:OpIn w (λk=>k<B) ⟨4,⟨⟨nt,nr⟩,ni⟩,⟨⟨pt,pr⟩,pi⟩,name,dir,dots,⟨⟨at_,ar⟩,ai⟩,⟨⟨et,er⟩,ei⟩,text,elems⟩ ⟨xd,xdc,xe,xec⟩):
  Calls Tryz.prog 133 #[.pointer (some ⟨b,0,none⟩),.agg #[(4:Int),nt,nr,ni,pt,pr,pi,name,dir,.slice xd dots.length xdc,at_,ar,ai,et,er,ei,text,.slice xe elems.length xec]] w λe w'=>e= .returned (.tuple #[])∧WrQ B b (l++opZ ⟨4,⟨⟨nt,nr⟩,ni⟩,⟨⟨pt,pr⟩,pi⟩,name,dir,dots,⟨⟨at_,ar⟩,ai⟩,⟨⟨et,er⟩,ei⟩,text,elems⟩) w w':=by
 obtain⟨-,-,-,r,t,-,C,u,v,-,g⟩:=hok;simp only at r t C u v g;have aH:=hW.pt;have aa:=hid hIn;have D:=hid ((WrQ.refl hW).alloc (by omega) (.cells #[(4:Int),nt,nr,ni,pt,pr,pi,name,dir,.slice xd dots.length xdc,at_,ar,ai,et,er,ei,text,.slice xe elems.length xec] 125));have HA:=hid (am w (.cells #[(4:Int),nt,nr,ni,pt,pr,pi,name,dir,.slice xd dots.length xdc,at_,ar,ai,et,er,ei,text,.slice xe elems.length xec] 125));have ac:=hid r.b;have aJ:=hid t.b;have aL:=hid C;have aM:=hid u.b;have aN:=hid v.b;have Q:=hid g;have ad:=d6 r;have af:=d6 t;have ag:=d6 u;have ah:=d6 v;have aO:=eD (s:=name) (by omega);have aP:=eD (s:=text) (by omega);clear hW hIn r t C u v g;obtain⟨K,h⟩:∃z,z=idZ ⟨⟨nt,nr⟩,ni⟩:=⟨_,rfl⟩;obtain⟨z2,m⟩:∃z,z=idZ ⟨⟨pt,pr⟩,pi⟩:=⟨_,rfl⟩;obtain⟨z3,o⟩:∃z,z=idZ ⟨⟨at_,ar⟩,ai⟩:=⟨_,rfl⟩;obtain⟨z4,p⟩:∃z,z=idZ ⟨⟨et,er⟩,ei⟩:=⟨_,rfl⟩;rw[<-h] at ad;rw[<-m] at af;rw[<-o] at ag;rw[<-p] at ah;have R:=hid h;have aQ:=hid m;have aR:=hid o;have aS:=hid p;clear h m o p;go_enter Tryz.func133,Tryz.ntmps133;have aj:(natZ 4).length<=10:=cZ (by decide);go_wp2_with fail;have E:=hid (D.out.alloc (by have:=D.out.1.pt;omega) (.cells #[(4:Int)] 3))
 refine(eV B b l (w.heap.size+1) [4] 1 _ (by intro y q;simp at q;subst q;decide) (by simp;omega) (by simp) (by exact E.out.1) (by exact bn _ _ (by simp)) (by have:=D.out.1.pt;omega)).mono ?_;rintro e y1 ⟨rfl,a⟩;have S:=hid (show WrQ B b (l++natZ 4) w y1 by have:=E.out.trans (by exact a);simpa using this);have A:=hid (WrQ.obj a ((ax _ _ _ (lt_of_block HA.out)).trans HA.out) (by omega) (by decide));clear a E;have az:=cw1 A.out;have aA:=cw2 A.out;have aB:=cw3 A.out;go_wp2_with fail;refine(iy B b (l++natZ 4) ⟨⟨nt,nr⟩,ni⟩ _ ac.out (by simp;omega) S.out.1).mono ?_;rintro e y2 ⟨rfl,a⟩;have F:=hid (show WrQ B b ((l++natZ 4)++K) w y2 by have:=S.out.trans a;rw[<-R.out] at this;exact this);have f:=hid (a.obj A.out (by omega) (by decide));clear a;have aC:=cw0 f.out;have aD:=cw9 f.out;have ay:=cw17 f.out;go_wp2_with fail;have G:=hid (F.out.alloc (by have:=F.out.1.pt;omega) (.cells #[(elems.length:Int)] 3));refine(eV B b ((l++natZ 4)++K) y2.heap.size [(elems.length:Int)] 1 _ (by intro y q;simp at q;subst q;omega) (by simp;omega) (by simp) (by exact G.out.1) (by exact bn _ _ (by simp)) (by have:=F.out.1.pt;omega)).mono ?_;rintro e y3 ⟨rfl,a⟩;have ak:=hid (show WrQ B b (((l++natZ 4)++K)++natZ elems.length) w y3 by have:=G.out.trans (by exact a);simpa using this)
 have H:=hid (WrQ.obj a ((ax _ _ _ (lt_of_block f.out)).trans f.out) (by omega) (by decide));clear a G;have aE:=cw9 H.out;have L:=cw17 H.out;have aF:=cw0 H.out;have ap:(natZ (elems.length:Int)).length<=10:=cZ (by omega);obtain⟨n,X⟩:∃n,n=elems.length:=⟨_,rfl⟩;obtain⟨P,Y⟩:∃P,P=(((l++natZ 4)++K)++natZ elems.length):=⟨_,rfl⟩;have aT:P.length<=l.length+50:=by rw[Y];simp;omega
 have HP:=hid Y;have Z:=hid X;clear Y;rw[<-X] at hel L;clear X ap aj;have aq:=hid (show WrQ B b P w y3 by rw[HP.out];exact ak.out);have hN:(elems.length:Int)=(n:Int):=by rw[Z.out]
 try rw[hN]
 clear hN;go_upto_region 27 with(fail);go_loopw [94] (λi wr=>∃j:Nat,j<=n∧i= .int .i64 j∧Hid (WrQ B b (P++(elems.take j).flatMap idZ) w wr)) (λi _=>n-(RowKit.intOf i).toNat)
 case atStart=>exact⟨0,by omega,rfl,hid (by rw[iu,List.flatMap_nil,fV];exact aq.out)⟩
 case round=>
  obtain⟨j,hj,rfl,M⟩:=hrel;by_cases aU:j<n
  ·have d:j<elems.length:=by have:=Z.out;omega
   obtain⟨ab,ao,rfl,-,aV,d0,d1,d2⟩:=IdsS.at_ (RowG.agr aa.out.elems ⟨M.out.2.1.size,λk hk _=>M.out.2.1.block k hk⟩) (k:=j) d;obtain⟨x,N⟩:∃x,x=elems.getD j .zero:=⟨_,rfl⟩;simp only[<-N] at d0 d1 d2;have T:x∈elems:=by rw[N,ae,an d];exact bU d
   have U:=Q.out.2 x T;have HT:=hid (show(P++(elems.take j).flatMap idZ)++idZ x=P++(elems.take (j+1)).flatMap idZ by rw[cv d,aI,bP,N,ae,an d,aG];rfl);have au:(P++(elems.take j).flatMap idZ).length<=P.length+30*n:=by
    have h1:=gM (z:=idZ) (c:=30) (l:=elems.take j) λy q=>d6 (Q.out.2 y (dQ q));have h2:(elems.take j).length<=n:=by have:=List.length_take_le j elems;omega
    have h3:30*(elems.take j).length<=30*n:=iS _ h2;rw[al];omega
   have I:=U.b;obtain⟨⟨xt,xr⟩,xi⟩:=x;simp only at d0 d1 d2 I;obtain⟨O,J⟩:∃O,O=P++(elems.take j).flatMap idZ:=⟨_,rfl⟩;rw[<-J] at au;have V:=hid J;have av:=hid I;clear J N T U d I;have W:=hid (show WrQ B b O w wr by rw[V.out];exact M.out);have HK:=hid (W.out.alloc (by have:=W.out.1.pt;omega) (.cells #[xt,xr,xi] 108));go_wp2_with fail;refine(iy B b O ⟨⟨xt,xr⟩,xi⟩ _ av.out (by omega) HK.out.1).mono ?_;rintro e w3 ⟨rfl,a⟩;have aw:=hid (HK.out.trans a);clear a;go_wp2;go_roundw
   case rel=>exact⟨j+1,by omega,by go_num,hid (by rw[<-HT.out,<-V.out];exact aw.out)⟩
   case measure=>simp[RowKit.intOf];omega
  ·obtain rfl:j=n:=by omega
   go_wp2;go_end0;refine⟨rfl,?_⟩;have:=M.out;rw[Z.out,aK,HP.out,R.out] at this;simpa[opZ,aG] using this
theorem wop_any (B b:Nat) (l:List UInt8) (o:Gop) (x:OpX) (w:World) (hok:okO o) (hdl:o.dots.length<=200) (hel:o.elems.length<=2000) (hnl:o.name.size<=1000000) (htl:o.text.size<=1000000) (hl:l.length+3000000<=140737488355328) (hW:Wrt w B b l) (hIn:OpIn w (λk=>k<B) o x):
  Calls Tryz.prog 133 #[.pointer (some ⟨b,0,none⟩),.agg (opA o x)] w λe w'=>e= .returned (.tuple #[])∧WrQ B b (l++opZ o) w w':=by
 obtain⟨a,⟨⟨h,i⟩,j⟩,⟨⟨m,n⟩,p⟩,name,c,dots,⟨⟨d,q⟩,r⟩,⟨⟨s,t⟩,u⟩,text,elems⟩:=o;obtain⟨v,f,y,g⟩:=x;have E:0<=a:=hok.1;have F:a<=4:=hok.2.1;by_cases z:a=0
 ·subst z;exact wop_0 B b l h i j m n p name c dots d q r s t u text elems v f y g w hok hdl hel hnl htl hl hW hIn
 by_cases A:a=1
 ·subst A;exact wop_1 B b l h i j m n p name c dots d q r s t u text elems v f y g w hok hdl hel hnl htl hl hW hIn
 by_cases C:a=2
 ·subst C;exact wop_2 B b l h i j m n p name c dots d q r s t u text elems v f y g w hok hdl hel hnl htl hl hW hIn
 by_cases D:a=3
 ·subst D;exact wop_3 B b l h i j m n p name c dots d q r s t u text elems v f y g w hok hdl hel hnl htl hl hW hIn
 obtain rfl:a=4:=by omega
 exact wop_4 B b l h i j m n p name c dots d q r s t u text elems v f y g w hok hdl hel hnl htl hl hW hIn
end
end
end Go.Proofs.YtkhmicndehlneaaGreatDoor
