/- Part 13 of the walks and plain laws that this claim uses, joined. Conditions: as each theorem states. -/
import Derived.Deep.Light
import Derived.Test.YtkhmicndehlneaaGreatDoorYrl
namespace Go.Proofs.YtkhmicndehlneaaGreatDoor
set_option maxRecDepth 100000
set_option maxHeartbeats 16000000
set_option linter.unusedVariables false
section
section
open Go.RowKit Go.Lib Go.Sort
theorem tl_eq {s:ByteArray}:s.toList=s.data.toList:=cw s
def signP (c:Nat):Prop:=(48<=c∧c<=57)∨(65<=c∧c<=90)∨(97<=c∧c<=122)∨c=46∨c=45∨c=95
theorem signB_iff (b:UInt8):signB b=true↔signP b.toNat:=by
 simp only[signB,signP,dk,ay,au];omega
theorem all_get {s:ByteArray} {p:UInt8->Bool} (h:∀i (hi:i<s.size),p s[i]=true):s.data.toList.all p=true:=by
 rw[dT];intro b c;obtain⟨i,hi,e⟩:=dX.1 c;have a:i<s.size:=by simpa using hi
 have:=h i a;rw[<-e];exact this
theorem all_not {s:ByteArray} {p:UInt8->Bool} {i:Nat} (a:i<s.size) (h:p s[i]=false):s.data.toList.all p=false:=by
 cases e:s.data.toList.all p with
 |false=>rfl
 | true=>
  rw[dT] at e
  have:=e s[i] (by
   refine dX.2 ⟨i,by simpa using a,rfl⟩)
  rw[h] at this;cases this
theorem jO (s:ByteArray) (w:World) (C:s.size<=9223372036854775807):
    Calls Tryz.prog 159 #[s] w λe w'=>e= .returned (.bool (eC s))∧w'=w:=by
  obtain⟨b,p⟩:∃v,v=eC s:=⟨_,rfl⟩;rw[<-p];have g:=hid p;clear p;by_cases j:s.data.toList=[]
  · obtain rfl:b=false:=by rw[g.o];simp[eC,j]
    obtain rfl:=eb.1 j;go_enter Tryz.func159,Tryz.ntmps159;go_wp2;go_ret;exact⟨rfl,rfl⟩
  have D:s.toList.isEmpty=false:=by
    rw[tl_eq];cases e:s.data.toList with
    |nil=>exact absurd e j
    |cons a l=>rfl
  by_cases q:s.size<=32
  · have A : ¬(32:Int)<(s.size:Int):=by omega
    by_cases m:s.data.toList=[46]
    · obtain rfl:b=false:=by rw[g.o];simp[eC,m]
      obtain rfl:s=⟨#[46]⟩:=fH (eR.1 m);go_enter Tryz.func159,Tryz.ntmps159;go_wp2;go_ret;exact⟨rfl,rfl⟩
    have E:(s.toList == [46])=false:=by rw[tl_eq];simp[m]
    by_cases n:s.data.toList=[46,46]
    · obtain rfl:b=false:=by rw[g.o];simp[eC,n]
      obtain rfl:s=⟨#[46,46]⟩:=fH (eR.1 n);go_enter Tryz.func159,Tryz.ntmps159;go_wp2;go_ret;exact⟨rfl,rfl⟩
    have F:(s.toList == [46,46])=false:=by rw[tl_eq];simp[n]
    have t:b=s.data.toList.all signB:=by
      rw[g.o];simp only[eC];rw[aI (show s.data.toList≠[] from j),aI q,aI (show s.data.toList≠[46] from m),aI (show s.data.toList≠[46,46] from n)];simp only[aZ]
    have o:=hid t;clear t j q m n;go_enter Tryz.func159,Tryz.ntmps159;go_wp2;go_loop [3] (λi=>∃k:Nat,k<=s.size∧i= .int .i64 k∧Hid (∀i (f:i<s.size),i<k->signB s[i]=true)) (λi=>s.size-(RowKit.intOf i).toNat)
    case atStart=>exact⟨0,by omega,rfl,λi _ f=>absurd f (by omega)⟩
    case round =>
      obtain⟨k,G,rfl,u⟩:=hrel;by_cases x:k<s.size
      · obtain ⟨c,y⟩:∃c,c=s[k].toNat:=⟨_,rfl⟩;cases d:signB s[k] with
        | true =>
          have r:=(signB_iff _).1 d;unfold signP at r;have z:Hid (∀i (f:i<s.size),i<k+1->signB s[i]=true):=λi f B=>by
            rcases cJ i k with h|h
            · exact u.o i f h
            · obtain rfl:i=k:=by omega
              exact d
          clear d y;go_wp2
          all_goals first
            |(exfalso;omega)
            |(exfalso;go_light;simp only[il,Bool.not_eq_false',aW,au,aL,cf,ne_eq] at *;omega)
            | (go_round
               case rel=>exact⟨k+1,by omega,by go_num,z⟩
               case measure=>simp[RowKit.intOf];omega)
        | false=>
          obtain rfl:b=false:=by rw[o.o];exact all_not x d
          have r:¬signP s[k].toNat:=by rw[<-signB_iff,d];decide
          unfold signP at r;clear d y;go_wp2
          all_goals first
            |(exfalso;omega)
            |(exfalso;go_light;simp only[il,Bool.not_eq_false',aW,au,aL,cf,ne_eq] at *;omega)
            |(go_ret;exact⟨rfl,rfl⟩)
      · obtain rfl:k=s.size:=by omega
        obtain rfl:b=true:=by rw[o.o];exact all_get (λi f=>u.o i f f)
        go_wp2;go_ret;exact⟨rfl,rfl⟩
  · have A:(32:Int)<(s.size:Int):=by omega
    obtain rfl:b=false:=by rw[g.o];simp[eC,q]
    go_enter Tryz.func159,Tryz.ntmps159;go_wp2;go_ret;exact⟨rfl,rfl⟩
end
section
open Go.RowKit Go.Lib Go.Sort
set_option linter.unusedSimpArgs false
theorem getD_get (s:ByteArray) (i:Nat) (h:i<s.size):s.data.toList.getD i 0=s[i]:=by
 rw[ae,aw (by simpa using h)];rfl
def firstV:Option (Nat×Nat)->Value
 |none=> .tuple #[(0:Int),(0:Int),false]
 |some (c,k)=> .tuple #[.int .i64 c,.int .i64 k,true]
def bz (s:ByteArray) (i:Nat):Nat:=(s.data.toList.getD i 0).toNat
theorem fs (s:ByteArray) (i:Nat) (h:i<s.size):bz s i=s[i].toNat:=by unfold bz;rw[getD_get s i h]
theorem byteN_lt (s:ByteArray) (i:Nat):bz s i<256:=fm _
def cF (a:Nat) (b:Nat->Nat):Nat->Nat
 |0=>a
 |j+1=>cF a b j*64+(b (j+1)-128)
theorem cF1 (a:Nat) (b:Nat->Nat):cF a b 1=a*64+(b 1-128):=rfl
theorem cF2 (a:Nat) (b:Nat->Nat):cF a b 2=(a*64+(b 1-128))*64+(b 2-128):=rfl
theorem cF3 (a:Nat) (b:Nat->Nat):cF a b 3=((a*64+(b 1-128))*64+(b 2-128))*64+(b 3-128):=rfl
theorem cF_le (a:Nat) (b:Nat->Nat) (d:a<32) (c:∀i,b i<256) (j:Nat) (f:j<=3):cF a b j<=9000000:=by
 have g:=c 1;have h:=c 2;have k:=c 3;obtain rfl|rfl|rfl|rfl:j=0∨j=1∨j=2∨j=3:=by omega
 ·have e:cF a b 0=a:=rfl;rw[e];omega
 ·rw[cF1];omega
 ·rw[cF2];omega
 ·rw[cF3];omega
theorem rfL_byte (s:ByteArray):rfL s.data.toList=rfN s.size (bz s 0) (bz s 1) (bz s 2) (bz s 3):=by
 unfold rfL bz;rw[show s.data.toList.length=s.size by simp]
theorem first_low (s:ByteArray) (w:World) (d:s.size<=9223372036854775807) (a:0<s.size) (b:bz s 0<128):
  Calls Tryz.prog 212 #[s] w λe w'=>e= .returned (firstV (rfL s.data.toList))∧w'=w:=by
 have c:rfL s.data.toList=some (s[0].toNat,1):=by
  rw[rfL_byte,<-fs s 0 a];unfold rfN;rw[aN b]
 rw[c];rw[fs s 0 a] at b;show Calls _ _ _ _ λe w'=>e= .returned (.tuple #[.int .i64 (s[0].toNat:Nat),.int .i64 (1:Nat),true])∧w'=w;have f:=s[0].toNat_lt;have g:(s[0].toNat:Int)<128:=by omega
 clear c;go_enter iO,gZ;go_wp2;go_ret3;exact⟨rfl,rfl⟩
theorem first_bad (s:ByteArray) (w:World) (l:s.size<=9223372036854775807) (c:0<s.size) (a:(128<=bz s 0∧bz s 0<194)∨245<=bz s 0):
  Calls Tryz.prog 212 #[s] w λe w'=>e= .returned (firstV (rfL s.data.toList))∧w'=w:=by
 have b:rfL s.data.toList=none:=by
  rw[rfL_byte];unfold rfN;rw[aE (by omega),aE (by omega),aE (by omega),aE (by omega)]
 rw[b];rw[fs s 0 c] at a;show Calls _ _ _ _ λe w'=>e= .returned (.tuple #[(0:Int),(0:Int),false])∧w'=w;have m:=s[0].toNat_lt;clear b;rcases a with a|a
 ·have d:¬(s[0].toNat:Int)<128:=by omega
  have f:¬(194:Int)<=(s[0].toNat:Int):=by omega
  have g:¬(224:Int)<=(s[0].toNat:Int):=by omega
  have h:¬(240:Int)<=(s[0].toNat:Int):=by omega
  clear a;go_enter iO,gZ;go_wp2;go_ret3;exact⟨rfl,rfl⟩
 ·have d:¬(s[0].toNat:Int)<128:=by omega
  have f:(194:Int)<=(s[0].toNat:Int):=by omega
  have i:¬(s[0].toNat:Int)<224:=by omega
  have g:(224:Int)<=(s[0].toNat:Int):=by omega
  have j:¬(s[0].toNat:Int)<240:=by omega
  have h:(240:Int)<=(s[0].toNat:Int):=by omega
  have k:¬(s[0].toNat:Int)<245:=by omega
  clear a;go_enter iO,gZ;go_wp2;go_ret3;exact⟨rfl,rfl⟩
theorem rf_2 (s:ByteArray) (f:194<=bz s 0∧bz s 0<224) (X:Nat) (g:X=cF (bz s 0-192) (bz s) 1):
  (s.size<2->rfL s.data.toList=none)∧(∀m,1<=m->m<2->¬cN (bz s m)->rfL s.data.toList=none)∧
  (2<=s.size->(∀m,1<=m->m<2->cN (bz s m))->(True->rfL s.data.toList=some (X,2))∧(¬True->rfL s.data.toList=none)):=by
 have c:rfL s.data.toList=(if 2<=s.size∧cN (bz s 1) then some (X,2) else none):=by
  rw[rfL_byte,g];unfold rfN;rw[aE (by omega),aN f];rfl
 refine⟨λh=>by rw[c,aE (by omega)],λm d e a=> ?_,λd e=>⟨λa=> ?_,λa=> ?_⟩⟩
 ·rw[c,aE];intro b;obtain rfl:m=1:=by omega
  all_goals first|exact a b.2.1|exact a b.2.2.1|exact a b.2.2.2.1|exact a b.2
 ·rw[c,aN];exact⟨d,e 1 (by omega) (by omega)⟩
 ·rw[c,aE];intro b;exact a trivial
theorem first_2 (s:ByteArray) (w:World) (W:s.size<=9223372036854775807) (D:0<s.size) (g:194<=bz s 0∧bz s 0<224):
  Calls Tryz.prog 212 #[s] w λe w'=>e= .returned (firstV (rfL s.data.toList))∧w'=w:=by
 obtain⟨p,q,r⟩:=rf_2 s g _ rfl;obtain⟨R,E⟩:∃R,R=rfL s.data.toList:=⟨_,rfl⟩;rw[<-E] at p q r ⊢;clear E;have k:=cF_le (bz s 0-192) (bz s) (by omega) (byteN_lt s);have l:=g;rw[fs s 0 D] at l;have Y:=s[0].toNat_lt;have Z:¬(s[0].toNat:Int)<128:=by omega
 have u0:(194:Int)<=(s[0].toNat:Int):=by omega
 have u1:(s[0].toNat:Int)<224:=by omega
 have F:Hid (∀m,1<=m->m<2->¬cN (bz s m)->R=none):=q;have v:Hid (2<=s.size->(∀m,1<=m->m<2->cN (bz s m))->((λX=>True) (cF (bz s 0-192) (bz s) 1)->R=some (cF (bz s 0-192) (bz s) 1,2))∧(¬(λX=>True) (cF (bz s 0-192) (bz s) 1)->R=none)):=r;have x:=hid k;by_cases G:s.size<2
 ·obtain rfl:=p G;have O:(s.size:Int)<2:=by omega
  show Calls _ _ _ _ λe w'=>e= .returned (.tuple #[(0:Int),(0:Int),false])∧w'=w;clear p q r k g l;go_enter iO,gZ;go_wp2;go_ret3;exact⟨rfl,rfl⟩
 have O:¬(s.size:Int)<2:=by omega
 have y:(s[0].toNat:Int)-192=((cF (bz s 0-192) (bz s) 0:Nat):Int):=by
  show _=((bz s 0-192:Nat):Int);rw[fs s 0 D];omega
 have z:=hid y;have P:=hid g;clear p q r k g l y;obtain⟨a,t⟩:∃a,a=bz s 0-192:=⟨_,rfl⟩;rw[<-t] at z v x;have H:=hid t;clear t;go_enter iO,gZ;go_wp2;go_loop [7,8] (λc i=>∃j C:Nat,j<2∧i= .int .i64 (j+1:Nat)∧c= .int .i64 C∧Hid (C=cF a (bz s) j)∧Hid (∀m,1<=m->m<=j->cN (bz s m))) (λ_ i=>2-(RowKit.intOf i).toNat)
 case atStart=>exact⟨0,cF a (bz s) 0,by omega,rfl,by rw[z.o],rfl,λm n I=>absurd n (by omega)⟩
 case round=>
  obtain⟨j,C,hj,rfl,rfl,u,B⟩:=hrel;have U:C<=9000000:=by rw[u.o];exact x.o j (by omega)
  by_cases J:j+1<2
  ·have Q:j+1<s.size:=by omega
   have d0:=s[j+1].toNat_lt;have A:=fs s (j+1) Q;have o:=hid A;clear A;by_cases d:cN (bz s (j+1))
   ·have b:=d;rw[o.o] at b;have K:¬(s[j+1].toNat:Int)<128:=by have:=b.1;omega
    have S:¬(192:Int)<=(s[j+1].toNat:Int):=by have:=b.2;omega
    have L:Hid (((C:Int)*64+(s[j+1].toNat:Int)-128)=((cF a (bz s) (j+1):Nat):Int)):=by
     show _=((cF a (bz s) j*64+(bz s (j+1)-128):Nat):Int);rw[<-u.o,o.o];omega
    have M:Hid (∀m,1<=m->m<=j+1->cN (bz s m)):=λm n I=>by
     rcases cJ j m with h|h
     ·obtain rfl:m=j+1:=by omega
      exact d
     ·exact B.o m n h
    clear d b;go_wp2;go_round
    case rel=>exact⟨j+1,cF a (bz s) (j+1),by omega,by go_num,by rw[<-L.o],rfl,M⟩
    case measure=>simp[RowKit.intOf];omega
   ·obtain rfl:R=none:=F.o (j+1) (by omega) J d;have b:¬(128<=s[j+1].toNat∧s[j+1].toNat<192):=by rw[<-o.o];exact d
    clear d;by_cases N:s[j+1].toNat<128
    ·have K:(s[j+1].toNat:Int)<128:=by omega
     clear b N;go_wp2;go_ret3;exact⟨rfl,rfl⟩
    ·have K:¬(s[j+1].toNat:Int)<128:=by omega
     have S:(192:Int)<=(s[j+1].toNat:Int):=by omega
     clear b N;go_wp2;go_ret3;exact⟨rfl,rfl⟩
  ·obtain rfl:j=1:=by omega
   have f:=v.o (by omega) (λm n I=>B.o m n (by omega));rw[<-u.o] at f
   try simp only at f
   have V:C<=2047:=by
    rw[u.o];have t:a<=31:=by rw[H.o];have:=P.o;omega
    have q1:=(B.o 1 (by omega) (by omega)).2;rw[cF1];omega
   obtain⟨f,T⟩:=f;obtain rfl:R=some (C,2):=f trivial;have v0:¬(1114111:Int)<(C:Int):=by omega
   have v1:¬(55296:Int)<=(C:Int):=by omega
   clear f T;go_wp2;go_ret3;exact⟨rfl,rfl⟩
theorem rf_3 (s:ByteArray) (f:224<=bz s 0∧bz s 0<240) (X:Nat) (g:X=cF (bz s 0-224) (bz s) 2):
  (s.size<3->rfL s.data.toList=none)∧(∀m,1<=m->m<3->¬cN (bz s m)->rfL s.data.toList=none)∧
  (3<=s.size->(∀m,1<=m->m<3->cN (bz s m))->((2048<=X∧(X<55296∨57344<=X))->rfL s.data.toList=some (X,3))∧(¬(2048<=X∧(X<55296∨57344<=X))->rfL s.data.toList=none)):=by
 have c:rfL s.data.toList=(if 3<=s.size∧cN (bz s 1)∧cN (bz s 2)∧2048<=X∧(X<55296∨57344<=X) then some (X,3) else none):=by
  rw[rfL_byte,g];unfold rfN;rw[aE (by omega),aE (by omega),aN f];rfl
 refine⟨λh=>by rw[c,aE (by omega)],λm e d a=> ?_,λe d=>⟨λa=> ?_,λa=> ?_⟩⟩
 ·rw[c,aE];intro b;obtain rfl|rfl:m=1∨m=2:=by omega
  all_goals first|exact a b.2.1|exact a b.2.2.1|exact a b.2.2.2.1|exact a b.2
 ·rw[c,aN];exact⟨e,d 1 (by omega) (by omega),d 2 (by omega) (by omega),a.1,a.2⟩
 ·rw[c,aE];intro b;exact a ⟨b.2.2.2.1,b.2.2.2.2⟩
theorem first_3 (s:ByteArray) (w:World) (hs:s.size<=9223372036854775807) (H:0<s.size) (k:224<=bz s 0∧bz s 0<240):
  Calls Tryz.prog 212 #[s] w λe w'=>e= .returned (firstV (rfL s.data.toList))∧w'=w:=by
 obtain⟨q,r,t⟩:=rf_3 s k _ rfl;obtain⟨R,I⟩:∃R,R=rfL s.data.toList:=⟨_,rfl⟩;rw[<-I] at q r t ⊢;clear I;have l:=cF_le (bz s 0-224) (bz s) (by omega) (byteN_lt s);have n:=k;rw[fs s 0 H] at n;have t0:=s[0].toNat_lt;have t1:¬(s[0].toNat:Int)<128:=by omega
 have u0:(194:Int)<=(s[0].toNat:Int):=by omega
 have u1:¬(s[0].toNat:Int)<224:=by omega
 have u2:(224:Int)<=(s[0].toNat:Int):=by omega
 have u3:(s[0].toNat:Int)<240:=by omega
 have J:Hid (∀m,1<=m->m<3->¬cN (bz s m)->R=none):=r;have z:Hid (3<=s.size->(∀m,1<=m->m<3->cN (bz s m))->((λX=>(2048<=X∧(X<55296∨57344<=X))) (cF (bz s 0-224) (bz s) 2)->R=some (cF (bz s 0-224) (bz s) 2,3))∧(¬(λX=>(2048<=X∧(X<55296∨57344<=X))) (cF (bz s 0-224) (bz s) 2)->R=none)):=t;have A:=hid l;by_cases K:s.size<3
 ·obtain rfl:=q K;have W:(s.size:Int)<3:=by omega
  show Calls _ _ _ _ λe w'=>e= .returned (.tuple #[(0:Int),(0:Int),false])∧w'=w;clear q r t l k n;go_enter iO,gZ;go_wp2;go_ret3;exact⟨rfl,rfl⟩
 have W:¬(s.size:Int)<3:=by omega
 have B:(s[0].toNat:Int)-224=((cF (bz s 0-224) (bz s) 0:Nat):Int):=by
  show _=((bz s 0-224:Nat):Int);rw[fs s 0 H];omega
 have D:=hid B;have Y:=hid k;clear q r t l k n B;obtain⟨a,u⟩:∃a,a=bz s 0-224:=⟨_,rfl⟩;rw[<-u] at D z A;have L:=hid u;clear u;go_enter iO,gZ;go_wp2;go_loop [7,8] (λc i=>∃j C:Nat,j<3∧i= .int .i64 (j+1:Nat)∧c= .int .i64 C∧Hid (C=cF a (bz s) j)∧Hid (∀m,1<=m->m<=j->cN (bz s m))) (λ_ i=>3-(RowKit.intOf i).toNat)
 case atStart=>exact⟨0,cF a (bz s) 0,by omega,rfl,by rw[D.o],rfl,λm o M=>absurd o (by omega)⟩
 case round=>
  obtain⟨j,C,hj,rfl,rfl,v,x⟩:=hrel;have aa:C<=9000000:=by rw[v.o];exact A.o j (by omega)
  by_cases N:j+1<3
  ·have Z:j+1<s.size:=by omega
   have d0:=s[j+1].toNat_lt;have E:=fs s (j+1) Z;have p:=hid E;clear E;by_cases f:cN (bz s (j+1))
   ·have b:=f;rw[p.o] at b;have O:¬(s[j+1].toNat:Int)<128:=by have:=b.1;omega
    have d2:¬(192:Int)<=(s[j+1].toNat:Int):=by have:=b.2;omega
    have P:Hid (((C:Int)*64+(s[j+1].toNat:Int)-128)=((cF a (bz s) (j+1):Nat):Int)):=by
     show _=((cF a (bz s) j*64+(bz s (j+1)-128):Nat):Int);rw[<-v.o,p.o];omega
    have Q:Hid (∀m,1<=m->m<=j+1->cN (bz s m)):=λm o M=>by
     rcases cJ j m with h|h
     ·obtain rfl:m=j+1:=by omega
      exact f
     ·exact x.o m o h
    clear f b;go_wp2;go_round
    case rel=>exact⟨j+1,cF a (bz s) (j+1),by omega,by go_num,by rw[<-P.o],rfl,Q⟩
    case measure=>simp[RowKit.intOf];omega
   ·obtain rfl:R=none:=J.o (j+1) (by omega) N f;have b:¬(128<=s[j+1].toNat∧s[j+1].toNat<192):=by rw[<-p.o];exact f
    clear f;by_cases S:s[j+1].toNat<128
    ·have O:(s[j+1].toNat:Int)<128:=by omega
     clear b S;go_wp2;go_ret3;exact⟨rfl,rfl⟩
    ·have O:¬(s[j+1].toNat:Int)<128:=by omega
     have d2:(192:Int)<=(s[j+1].toNat:Int):=by omega
     clear b S;go_wp2;go_ret3;exact⟨rfl,rfl⟩
  ·obtain rfl:j=2:=by omega
   have d:=z.o (by omega) (λm o M=>x.o m o (by omega));rw[<-v.o] at d
   try simp only at d
   have ab:C<=65535:=by
    rw[v.o];have u:a<=15:=by rw[L.o];have:=Y.o;omega
    have q1:=(x.o 1 (by omega) (by omega)).2;have q2:=(x.o 2 (by omega) (by omega)).2;rw[cF2];omega
   obtain⟨d,g⟩:=d;by_cases y:C<2048
   ·obtain rfl:R=none:=g (by omega);have F:(C:Int)<2048:=by omega
    clear d g y;go_wp2;go_ret3;exact⟨rfl,rfl⟩
   by_cases G:C<55296
   ·obtain rfl:R=some (C,3):=d (by omega);have F:¬(C:Int)<2048:=by omega
    have T:¬(1114111:Int)<(C:Int):=by omega
    have U:¬(55296:Int)<=(C:Int):=by omega
    clear d g y G;go_wp2;go_ret3;exact⟨rfl,rfl⟩
   by_cases V:C<57344
   ·obtain rfl:R=none:=g (by omega);have F:¬(C:Int)<2048:=by omega
    have T:¬(1114111:Int)<(C:Int):=by omega
    have U:(55296:Int)<=(C:Int):=by omega
    have v3:(C:Int)<57344:=by omega
    clear d g y G V;go_wp2;go_ret3;exact⟨rfl,rfl⟩
   ·obtain rfl:R=some (C,3):=d (by omega);have F:¬(C:Int)<2048:=by omega
    have T:¬(1114111:Int)<(C:Int):=by omega
    have U:(55296:Int)<=(C:Int):=by omega
    have v3:¬(C:Int)<57344:=by omega
    clear d g y G V;go_wp2;go_ret3;exact⟨rfl,rfl⟩
theorem rf_4 (s:ByteArray) (f:240<=bz s 0∧bz s 0<245) (X:Nat) (g:X=cF (bz s 0-240) (bz s) 3):
  (s.size<4->rfL s.data.toList=none)∧(∀m,1<=m->m<4->¬cN (bz s m)->rfL s.data.toList=none)∧
  (4<=s.size->(∀m,1<=m->m<4->cN (bz s m))->((65536<=X∧X<=1114111)->rfL s.data.toList=some (X,4))∧(¬(65536<=X∧X<=1114111)->rfL s.data.toList=none)):=by
 have c:rfL s.data.toList=(if 4<=s.size∧cN (bz s 1)∧cN (bz s 2)∧cN (bz s 3)∧65536<=X∧X<=1114111 then some (X,4) else none):=by
  rw[rfL_byte,g];unfold rfN;rw[aE (by omega),aE (by omega),aE (by omega),aN f];rfl
 refine⟨λh=>by rw[c,aE (by omega)],λm e d a=> ?_,λe d=>⟨λa=> ?_,λa=> ?_⟩⟩
 ·rw[c,aE];intro b;obtain rfl|rfl|rfl:m=1∨m=2∨m=3:=by omega
  all_goals first|exact a b.2.1|exact a b.2.2.1|exact a b.2.2.2.1|exact a b.2
 ·rw[c,aN];exact⟨e,d 1 (by omega) (by omega),d 2 (by omega) (by omega),d 3 (by omega) (by omega),a.1,a.2⟩
 ·rw[c,aE];intro b;exact a ⟨b.2.2.2.2.1,b.2.2.2.2.2⟩
theorem first_4 (s:ByteArray) (w:World) (hs:s.size<=9223372036854775807) (F:0<s.size) (g:240<=bz s 0∧bz s 0<245):
  Calls Tryz.prog 212 #[s] w λe w'=>e= .returned (firstV (rfL s.data.toList))∧w'=w:=by
 obtain⟨r,t,u⟩:=rf_4 s g _ rfl;obtain⟨R,G⟩:∃R,R=rfL s.data.toList:=⟨_,rfl⟩;rw[<-G] at r t u ⊢;clear G;have k:=cF_le (bz s 0-240) (bz s) (by omega) (byteN_lt s);have l:=g;rw[fs s 0 F] at l;have t0:=s[0].toNat_lt;have t1:¬(s[0].toNat:Int)<128:=by omega
 have u0:(194:Int)<=(s[0].toNat:Int):=by omega
 have u1:¬(s[0].toNat:Int)<224:=by omega
 have u2:(224:Int)<=(s[0].toNat:Int):=by omega
 have u3:¬(s[0].toNat:Int)<240:=by omega
 have u4:(240:Int)<=(s[0].toNat:Int):=by omega
 have u5:(s[0].toNat:Int)<245:=by omega
 have H:Hid (∀m,1<=m->m<4->¬cN (bz s m)->R=none):=t;have y:Hid (4<=s.size->(∀m,1<=m->m<4->cN (bz s m))->((λX=>(65536<=X∧X<=1114111)) (cF (bz s 0-240) (bz s) 3)->R=some (cF (bz s 0-240) (bz s) 3,4))∧(¬(λX=>(65536<=X∧X<=1114111)) (cF (bz s 0-240) (bz s) 3)->R=none)):=u;have z:=hid k;by_cases I:s.size<4
 ·obtain rfl:=r I;have T:(s.size:Int)<4:=by omega
  show Calls _ _ _ _ λe w'=>e= .returned (.tuple #[(0:Int),(0:Int),false])∧w'=w;clear r t u k g l;go_enter iO,gZ;go_wp2;go_ret3;exact⟨rfl,rfl⟩
 have T:¬(s.size:Int)<4:=by omega
 have A:(s[0].toNat:Int)-240=((cF (bz s 0-240) (bz s) 0:Nat):Int):=by
  show _=((bz s 0-240:Nat):Int);rw[fs s 0 F];omega
 have B:=hid A;have U:=hid g;clear r t u k g l A;obtain⟨a,v⟩:∃a,a=bz s 0-240:=⟨_,rfl⟩;rw[<-v] at B y z;have J:=hid v;clear v;go_enter iO,gZ;go_wp2;go_loop [7,8] (λc i=>∃j C:Nat,j<4∧i= .int .i64 (j+1:Nat)∧c= .int .i64 C∧Hid (C=cF a (bz s) j)∧Hid (∀m,1<=m->m<=j->cN (bz s m))) (λ_ i=>4-(RowKit.intOf i).toNat)
 case atStart=>exact⟨0,cF a (bz s) 0,by omega,rfl,by rw[B.o],rfl,λm n K=>absurd n (by omega)⟩
 case round=>
  obtain⟨j,C,hj,rfl,rfl,x,o⟩:=hrel;have Z:C<=9000000:=by rw[x.o];exact z.o j (by omega)
  by_cases L:j+1<4
  ·have V:j+1<s.size:=by omega
   have d0:=s[j+1].toNat_lt;have D:=fs s (j+1) V;have p:=hid D;clear D;by_cases d:cN (bz s (j+1))
   ·have b:=d;rw[p.o] at b;have M:¬(s[j+1].toNat:Int)<128:=by have:=b.1;omega
    have W:¬(192:Int)<=(s[j+1].toNat:Int):=by have:=b.2;omega
    have N:Hid (((C:Int)*64+(s[j+1].toNat:Int)-128)=((cF a (bz s) (j+1):Nat):Int)):=by
     show _=((cF a (bz s) j*64+(bz s (j+1)-128):Nat):Int);rw[<-x.o,p.o];omega
    have O:Hid (∀m,1<=m->m<=j+1->cN (bz s m)):=λm n K=>by
     rcases cJ j m with h|h
     ·obtain rfl:m=j+1:=by omega
      exact d
     ·exact o.o m n h
    clear d b;go_wp2;go_round
    case rel=>exact⟨j+1,cF a (bz s) (j+1),by omega,by go_num,by rw[<-N.o],rfl,O⟩
    case measure=>simp[RowKit.intOf];omega
   ·obtain rfl:R=none:=H.o (j+1) (by omega) L d;have b:¬(128<=s[j+1].toNat∧s[j+1].toNat<192):=by rw[<-p.o];exact d
    clear d;by_cases P:s[j+1].toNat<128
    ·have M:(s[j+1].toNat:Int)<128:=by omega
     clear b P;go_wp2;go_ret3;exact⟨rfl,rfl⟩
    ·have M:¬(s[j+1].toNat:Int)<128:=by omega
     have W:(192:Int)<=(s[j+1].toNat:Int):=by omega
     clear b P;go_wp2;go_ret3;exact⟨rfl,rfl⟩
  ·obtain rfl:j=3:=by omega
   have f:=y.o (by omega) (λm n K=>o.o m n (by omega));rw[<-x.o] at f
   try simp only at f
   have aa:C<=2097151:=by
    rw[x.o];have v:a<=4:=by rw[J.o];have:=U.o;omega
    have q1:=(o.o 1 (by omega) (by omega)).2;have q2:=(o.o 2 (by omega) (by omega)).2;have q3:=(o.o 3 (by omega) (by omega)).2;rw[cF3];omega
   obtain⟨f,q⟩:=f;by_cases E:C<65536
   ·obtain rfl:R=none:=q (by omega);have Q:(C:Int)<65536:=by omega
    clear f q E;go_wp2;go_ret3;exact⟨rfl,rfl⟩
   by_cases S:C<=1114111
   ·obtain rfl:R=some (C,4):=f (by omega);have Q:¬(C:Int)<65536:=by omega
    have Y:¬(1114111:Int)<(C:Int):=by omega
    have v2:(55296:Int)<=(C:Int):=by omega
    have v3:¬(C:Int)<57344:=by omega
    clear f q E S;go_wp2;go_ret3;exact⟨rfl,rfl⟩
   ·obtain rfl:R=none:=q (by omega);have Q:¬(C:Int)<65536:=by omega
    have Y:(1114111:Int)<(C:Int):=by omega
    clear f q E S;go_wp2;go_ret3;exact⟨rfl,rfl⟩
end
section
open Go.RowKit Go.Lib Go.Sort
theorem first_any (s:ByteArray) (w:World) (a:s.size<=9223372036854775807) (b:0<s.size):
  Calls Tryz.prog 212 #[s] w λe w'=>e= .returned (firstV (rfL s.data.toList))∧w'=w:=by
 have i:=byteN_lt s 0;by_cases c:bz s 0<128
 ·exact first_low s w a b c
 by_cases d:bz s 0<194
 ·exact first_bad s w a b (.inl ⟨by omega,d⟩)
 by_cases f:bz s 0<224
 ·exact first_2 s w a b ⟨by omega,f⟩
 by_cases g:bz s 0<240
 ·exact first_3 s w a b ⟨by omega,g⟩
 by_cases h:bz s 0<245
 ·exact first_4 s w a b ⟨by omega,h⟩
 ·exact first_bad s w a b (.inr (by omega))
theorem infoStr:(Tryz.prog.info? 9).map (λi=>(i.zero,i.size,i.bytes))=some (some (.string ⟨#[]⟩),1,16):=by kernel_rfl
theorem cell1 (W:World) (u:Value) (e:TypeId) (j:Nat) (v:Value) (h:[u][j]? =some v):(W.alloc (.cells #[u] e)).cell? ((⟨W.heap.size,0,none⟩:Addr).add j)=some v:=by
 have a:=an W (.cells #[u] e);cases j with
 |zero=>
  have b:(⟨W.heap.size,0,none⟩:Addr).add 0=⟨W.heap.size,0,none⟩:=rfl;rw[b,aG _ _ _ _ _ _ a];simpa using h
 |succ j=>simp at h
def cntAdd (m:Nat):Option Nat->Option Nat
 |none=>none
 |some q=>some (q+m)
theorem cntAdd_step {l:List UInt8} (a:l≠[]) (m:Nat) {c k:Nat} (h:rfL l=some (c,k)):cntAdd m (cnt l)=cntAdd (m+1) (cnt (l.drop k)):=by
 rw[cnt_step a,h];simp only;cases cnt (l.drop k) with
 |none=>rfl
 |some q=>show some (q+1+m)=some (q+(m+1));congr 1;omega
theorem cntAdd_none {l:List UInt8} (a:l≠[]) (m:Nat) (h:rfL l=none):cntAdd m (cnt l)=none:=by
 rw[cnt_step a,h];rfl
theorem drop_ext (s:ByteArray) (k:Nat):(s.extract k s.size).data.toList=s.data.toList.drop k:=by
 rw[gQ,iE,fV];exact eB (by simp)
def SpQ (r:Option Nat) (w:World) (e:Ending) (w':World):Prop:=match r with
 |none=>e= .returned (.tuple #[.slice none 0 0,(60:Int)])∧Below w.heap.size w w'
 |some m=>∃A c,e= .returned (.tuple #[.slice A m c,(0:Int)])∧Below w.heap.size w w'
theorem split6_any (s:ByteArray) (w:World) (X:s.size<=1000000):
  Calls Tryz.prog 193 #[s] w λe w'=>SpQ (cnt s.data.toList) w e w':=by
 obtain⟨R,z⟩:∃R,R=cnt s.data.toList:=⟨_,rfl⟩;rw[<-z];have O:=hid z;clear z;obtain⟨P,Q,F,G,H⟩:=bx infoStr;go_enter Tryz.func193,Tryz.ntmps193;go_wp2;go_loopw [0,4] (λt v wr=>∃T:ByteArray,∃m:Nat,∃I:List Value,t= .string T∧T.size+m<=s.size∧wr.ownsRow w.heap.size 9 1 v m I∧Below w.heap.size w wr∧Hid (R=cntAdd m (cnt T.data.toList))) (λt _ _=>match t with| .string T=>T.size|_=>0)
 case atStart=>exact⟨s,0,[],rfl,by omega,aH _ _ _ _,ag _ _,by
  show R=_;rw[O.o]
  cases cnt s.data.toList<;>rfl⟩
 case round=>
  obtain⟨T,m,I,rfl,Y,n,o,B⟩:=hrel;have b:T.data.toList.length=T.size:=by simp
  by_cases S:0<T.size
  ·have d:T.data.toList≠[]:=λe=>by rw[e] at b;simp at b;omega
   have j:=first_any T wr (by omega) S;cases f:rfL T.data.toList with
   |none=>
    rw[f] at j;obtain rfl:R=none:=by rw[B.o,cntAdd_none d m f]
    have C:Hid (Calls Tryz.prog 212 #[T] wr λe w'=>e= .returned (.tuple #[(0:Int),(0:Int),false])∧w'=wr):=j;clear j f d b n;go_wp2_with fail;refine C.o.mono ?_;rintro e J ⟨rfl,rfl⟩;go_wp2;go_ret2;exact⟨rfl,o⟩
   | some p=>
    obtain⟨c,k⟩:=p;rw[f] at j;have K:=jl d f;rw[b] at K;have L:Hid (R=cntAdd (m+1) (cnt (T.extract k T.size).data.toList)):=by
     show R=_;rw[B.o,cntAdd_step d m f,drop_ext]
    have C:Hid (Calls Tryz.prog 212 #[T] wr λe w'=>e= .returned (.tuple #[.int .i64 (c:Nat),.int .i64 (k:Nat),true])∧w'=wr):=j;obtain⟨U,V⟩:=K;have Z:(0:Int)<=(k:Int):=by omega
    have b2:(k:Int)<=(T.size:Int):=by omega
    have W:=o.size;have x:(T.extract k T.size).size=T.size-k:=by rw[dg];omega
    have y:=hid x;clear j f d b x;go_wp2_with fail;refine C.o.mono ?_;rintro e J ⟨rfl,rfl⟩;go_wp2_with (at_builtin;refine bv _ rfl _ _ 60 rfl w.heap.size 9 P (.string ⟨#[]⟩) 1 16 Tryz.underlying60 Q F G H rfl (by decide) _ _ _ rfl (by exact n.alloc _) ⟨J.heap.size,0,none⟩ 1 1 [.string (T.extract 0 k)] rfl rfl (by exact cell1 _ _ _) (λu M=>by simp at M;subst M;rfl) (by unfold maxLen;omega) (by omega) (by simp;omega) ?_;intro v' w3 q r _);go_roundw
    case rel=>exact⟨_,m+1,_,rfl,by rw[y.o];omega,q,(o.alloc (by omega) _).grown r (by simp;omega) (λi h=>(n.lt i h).1),L⟩
    case measure=>show(T.extract k T.size).size<T.size;rw[y.o];omega
  ·have D:T.data.toList=[]:=by
    cases e:T.data.toList with
    |nil=>rfl
    |cons a l=>rw[e] at b;simp at b;omega
   obtain rfl:R=some m:=by rw[B.o,D,cnt_nil];show some (0+m)=_;rw[cj]
   have N:T.size=0:=by omega
   obtain rfl:T=⟨#[]⟩:=eb.1 D;obtain⟨A,E,rfl⟩:∃A E,u4=Value.slice A m E:=by
    rcases n.2 with⟨rfl,rfl⟩|⟨g,cap,cur,rfl,_⟩
    ·exact⟨_,_,rfl⟩
    ·exact⟨_,_,rfl⟩
   clear n b D N;go_wp2;go_ret2;exact⟨A,E,rfl,o⟩
theorem reflen_ok (s:ByteArray) (m:Nat) (w:World) (b:s.size<=1000000) (h:cnt s.data.toList=some m):
  Calls Tryz.prog 163 #[s] w λe w'=>e= .returned (.tuple #[.int .i64 m,(0:Int)])∧Below w.heap.size w w':=by
 have a:=split6_any s w b;rw[h] at a;have d:=hid a;clear a h;go_enter Tryz.func163,Tryz.ntmps163;go_wp2_with fail;refine d.o.mono ?_;rintro e g ⟨A,c,rfl,f⟩;go_wp2;go_ret2;exact⟨rfl,f⟩
theorem reflen_bad (s:ByteArray) (w:World) (b:s.size<=1000000) (h:cnt s.data.toList=none):
  Calls Tryz.prog 163 #[s] w λe w'=>e= .returned (.tuple #[(0:Int),(60:Int)])∧Below w.heap.size w w':=by
 have a:=split6_any s w b;rw[h] at a;have c:=hid a;clear a h;go_enter Tryz.func163,Tryz.ntmps163;go_wp2_with fail;refine c.o.mono ?_;rintro e f ⟨rfl,d⟩;go_wp2;go_ret2;exact⟨rfl,d⟩
end
section
open Go.RowKit Go.Lib Go.Sort
set_option linter.unusedSimpArgs false
theorem rgz {w:World} {g:Nat} {T:TypeId} {fr:Nat×Nat} {a0 a1 a2 a3 a4 a5 a6 a7 a8 a9 a10 a11 a12 a13 a14 a15 a16 a17:Value} (h:w.heap[g]? =some (.cells #[a0,a1,a2,a3,a4,a5,a6,a7,a8,a9,a10,a11,a12,a13,a14,a15,a16,a17] T fr)):(∀(d:Nat) (os:Array Obj),(grow (redrawn w d) os).cell? ⟨g,4,none⟩=some a4)∧(∀(d:Nat) (os:Array Obj),(grow (redrawn w d) os).cell? ⟨g,5,none⟩=some a5)∧(∀(d:Nat) (os:Array Obj),(grow (redrawn w d) os).cell? ⟨g,6,none⟩=some a6)∧(∀(d:Nat) (os:Array Obj),(grow (redrawn w d) os).cell? ⟨g,7,none⟩=some a7)∧(∀(d:Nat) (os:Array Obj),(grow (redrawn w d) os).cell? ⟨g,8,none⟩=some a8)∧(∀(d:Nat) (os:Array Obj),(grow (redrawn w d) os).cell? ⟨g,9,none⟩=some a9)∧(∀(d:Nat) (os:Array Obj),(grow (redrawn w d) os).cell? ⟨g,10,none⟩=some a10)∧(∀(d:Nat) (os:Array Obj),(grow (redrawn w d) os).cell? ⟨g,11,none⟩=some a11)∧(∀(d:Nat) (os:Array Obj),(grow (redrawn w d) os).cell? ⟨g,12,none⟩=some a12)∧(∀(d:Nat) (os:Array Obj),(grow (redrawn w d) os).cell? ⟨g,13,none⟩=some a13)∧(∀(d:Nat) (os:Array Obj),(grow (redrawn w d) os).cell? ⟨g,14,none⟩=some a14)∧(∀(d:Nat) (os:Array Obj),(grow (redrawn w d) os).cell? ⟨g,15,none⟩=some a15)∧(∀(d:Nat) (os:Array Obj),(grow (redrawn w d) os).cell? ⟨g,16,none⟩=some a16)∧(∀(d:Nat) (os:Array Obj),(grow (redrawn w d) os).cell? ⟨g,17,none⟩=some a17):=
 ⟨aj (by rw[crw h];rfl),aj (by rw[crw h];rfl),aj (by rw[crw h];rfl),aj (by rw[crw h];rfl),aj (by rw[crw h];rfl),aj (by rw[crw h];rfl),aj (by rw[crw h];rfl),aj (by rw[crw h];rfl),aj (by rw[crw h];rfl),aj (by rw[crw h];rfl),aj (by rw[crw h];rfl),aj (by rw[crw h];rfl),aj (by rw[crw h];rfl),aj (by rw[crw h];rfl)⟩
theorem refbare_0 (k Y Z ni pt pr pi:Int) (u:ByteArray) (E:Bool) (dA:Option Addr) (o dc:Nat) (m v x y z A:Int) (b:ByteArray) (eA:Option Addr) (i ec:Nat) (w:World):
  Calls Tryz.prog 160 #[.agg #[k,Y,Z,ni,pt,pr,pi,u,E,.slice dA o dc,m,v,x,y,z,A,b,.slice eA i ec],true,true,false,false,false] w λe w'=>e= .returned (.bool ((decide (o=0)) && (Gid.none ⟨⟨m,v⟩,x⟩) && (Gid.none ⟨⟨y,z⟩,A⟩) && (decide (b.data.toList=[])) && (decide (i=0))))∧Below w.heap.size w w':=by
 obtain⟨p,ha⟩:∃a,a=((decide (o=0)) && (Gid.none ⟨⟨m,v⟩,x⟩) && (Gid.none ⟨⟨y,z⟩,A⟩) && (decide (b.data.toList=[])) && (decide (i=0))):=⟨_,rfl⟩;rw[<-ha];have D:=hid ha;clear ha;obtain⟨W,F⟩:∃W,W=w.alloc (.cells #[k,Y,Z,ni,pt,pr,pi,u,E,.slice dA o dc,m,v,x,y,z,A,b,.slice eA i ec] 125):=⟨_,rfl⟩;have C:Below w.heap.size w W:=by subst F;exact(ag _ _).alloc (aa _) _
 have HA:=hid (show W.heap[w.heap.size]? =some (.cells #[k,Y,Z,ni,pt,pr,pi,u,E,.slice dA o dc,m,v,x,y,z,A,b,.slice eA i ec] 125 (0,0)) by subst F;exact an _ _);have HW:=hid F;have ae:w.heap.size<W.heap.size:=by subst F;simp
 clear F;go_enter bM,bA;go_upto_region 1 with(fail);rw[<-HW.o];obtain⟨x4,x5,x6,x7,x8,x9,N,O,P,Q,R,S,T,U⟩:=rgz HA.o;by_cases j:o=0
 case' neg=>
  have G:decide (o=0)=false:=aC j;obtain rfl:p=false:=by rw[D.o];simp only[G,decide_true,bj,bi,bw,aZ,Bool.not_true,Bool.not_false]
  have ab:decide (0<o)=true:=aI (by omega);clear G j
 case' pos=>
  have n:=hid (show decide (o=0)=true from aI j);have ab:decide (0<o)=false:=aC (by omega);clear j
 all_goals
  refine ap ?_
  repeat(any_goals(go_big_quiet_step (fail)))
  refine qz λwq q=> ?_
 any_goals(go_wp2;go_ret;exact⟨rfl,C.trans (q.mono C.size)⟩)
 have H:=C.trans (q.mono C.size);have V:=hid ((q.block _ ae).trans HA.o);clear q x4 x5 x6 x7 x8 x9 N O P Q R S T U;obtain⟨L,X⟩:∃L,L=wq:=⟨_,rfl⟩;rw[<-X] at H V ⊢;clear X;go_upto_region 3 with(fail);obtain⟨x4,x5,x6,x7,x8,x9,N,O,P,Q,R,S,T,U⟩:=rgz V.o;have B:=λd os=>ak (aT m v x (grow (redrawn L d) os));have r:=λd os=>ak (aT y z A (grow (redrawn L d) os));cases h:Gid.none ⟨⟨m,v⟩,x⟩
 case' false=>
  rw[h] at B;obtain rfl:p=false:=by rw[D.o];simp only[n.o,h,decide_true,bj,bi,bw,aZ,Bool.not_true,Bool.not_false]
  clear h
 case' true=>
  rw[h] at B;have s:=hid h;clear h;cases c:Gid.none ⟨⟨y,z⟩,A⟩
  case' false=>
   rw[c] at r;obtain rfl:p=false:=by rw[D.o];simp only[n.o,s.o,c,decide_true,bj,bi,bw,aZ,Bool.not_true,Bool.not_false]
   clear c
  case' true=>
   rw[c] at r;have t:=hid c;clear c;by_cases f:b.data.toList=[]
   case' neg=>
    have I:decide (b.data.toList=[])=false:=aC f;obtain rfl:p=false:=by rw[D.o];simp only[n.o,s.o,t.o,I,decide_true,bj,bi,bw,aZ,Bool.not_true,Bool.not_false]
    have af:b.toList.isEmpty=false:=by rw[cw];cases e:b.data.toList with
     |nil=>exact absurd e f
     |cons a l=>rfl
    clear I f
   case' pos=>
    have J:=hid (show decide (b.data.toList=[])=true from aI f);obtain rfl:=eb.1 f;clear f;by_cases g:i=0
    case' neg=>
     have K:decide (i=0)=false:=aC g;obtain rfl:p=false:=by rw[D.o];simp only[n.o,s.o,t.o,J.o,K,decide_true,bj,bi,bw,aZ,Bool.not_true,Bool.not_false]
     have ac:((i:Int) == 0)=false:=by rw[aL];omega
     have M:decide (i=0)=false:=aC g;clear K g
    case' pos=>
     have ad:=hid (show decide (i=0)=true from aI g);have ac:((i:Int) == 0)=true:=by rw[cf];omega
     have M:decide (i=0)=true:=aI g;clear g;obtain rfl:p=true:=by rw[D.o];simp only[n.o,s.o,t.o,J.o,ad.o,decide_true,bj,bi,bw,aZ,Bool.not_true,Bool.not_false]
 all_goals
  refine ap ?_
  repeat(any_goals(go_big_quiet_step (with_reducible first|exact B _ _|exact r _ _)))
  refine qz λwq q=> ?_;go_wp2;go_ret;exact⟨rfl,H.trans (q.mono H.size)⟩
end
section
open Go.RowKit Go.Lib Go.Sort
set_option linter.unusedSimpArgs false
theorem refbare_1 (k Y Z ni pt pr pi:Int) (v:ByteArray) (q:Bool) (dA:Option Addr) (p dc:Nat) (m x y z A B:Int) (b:ByteArray) (eA:Option Addr) (i ec:Nat) (w:World):
  Calls Tryz.prog 160 #[.agg #[k,Y,Z,ni,pt,pr,pi,v,q,.slice dA p dc,m,x,y,z,A,B,b,.slice eA i ec],true,false,false,false,false] w λe w'=>e= .returned (.bool ((!q) && (decide (p=0)) && (Gid.none ⟨⟨m,x⟩,y⟩) && (Gid.none ⟨⟨z,A⟩,B⟩) && (decide (b.data.toList=[])) && (decide (i=0))))∧Below w.heap.size w w':=by
 obtain⟨n,ha⟩:∃a,a=((!q) && (decide (p=0)) && (Gid.none ⟨⟨m,x⟩,y⟩) && (Gid.none ⟨⟨z,A⟩,B⟩) && (decide (b.data.toList=[])) && (decide (i=0))):=⟨_,rfl⟩;rw[<-ha];have C:=hid ha;clear ha;obtain⟨W,F⟩:∃W,W=w.alloc (.cells #[k,Y,Z,ni,pt,pr,pi,v,q,.slice dA p dc,m,x,y,z,A,B,b,.slice eA i ec] 125):=⟨_,rfl⟩;have E:Below w.heap.size w W:=by subst F;exact(ag _ _).alloc (aa _) _
 have HA:=hid (show W.heap[w.heap.size]? =some (.cells #[k,Y,Z,ni,pt,pr,pi,v,q,.slice dA p dc,m,x,y,z,A,B,b,.slice eA i ec] 125 (0,0)) by subst F;exact an _ _);have HW:=hid F;have ae:w.heap.size<W.heap.size:=by subst F;simp
 clear F;go_enter bM,bA;go_upto_region 1 with(fail);rw[<-HW.o];obtain⟨x4,x5,x6,x7,x8,x9,N,O,P,Q,R,S,T,U⟩:=rgz HA.o;cases q
 case' true=>
  obtain rfl:n=false:=by rw[C.o];simp only[decide_true,bj,bi,bw,aZ,Bool.not_true,Bool.not_false]
 case' false=>
  skip;by_cases j:p=0
  case' neg=>
   have G:decide (p=0)=false:=aC j;obtain rfl:n=false:=by rw[C.o];simp only[G,decide_true,bj,bi,bw,aZ,Bool.not_true,Bool.not_false]
   have ab:decide (0<p)=true:=aI (by omega);clear G j
  case' pos=>
   have o:=hid (show decide (p=0)=true from aI j);have ab:decide (0<p)=false:=aC (by omega);clear j
 all_goals
  refine ap ?_
  repeat(any_goals(go_big_quiet_step (fail)))
  refine qz λwq r=> ?_
 any_goals(go_wp2;go_ret;exact⟨rfl,E.trans (r.mono E.size)⟩)
 have H:=E.trans (r.mono E.size);have V:=hid ((r.block _ ae).trans HA.o);clear r x4 x5 x6 x7 x8 x9 N O P Q R S T U;obtain⟨L,X⟩:∃L,L=wq:=⟨_,rfl⟩;rw[<-X] at H V ⊢;clear X;go_upto_region 3 with(fail);obtain⟨x4,x5,x6,x7,x8,x9,N,O,P,Q,R,S,T,U⟩:=rgz V.o;have D:=λd os=>ak (aT m x y (grow (redrawn L d) os));have s:=λd os=>ak (aT z A B (grow (redrawn L d) os));cases h:Gid.none ⟨⟨m,x⟩,y⟩
 case' false=>
  rw[h] at D;obtain rfl:n=false:=by rw[C.o];simp only[o.o,h,decide_true,bj,bi,bw,aZ,Bool.not_true,Bool.not_false]
  clear h
 case' true=>
  rw[h] at D;have t:=hid h;clear h;cases c:Gid.none ⟨⟨z,A⟩,B⟩
  case' false=>
   rw[c] at s;obtain rfl:n=false:=by rw[C.o];simp only[o.o,t.o,c,decide_true,bj,bi,bw,aZ,Bool.not_true,Bool.not_false]
   clear c
  case' true=>
   rw[c] at s;have u:=hid c;clear c;by_cases f:b.data.toList=[]
   case' neg=>
    have I:decide (b.data.toList=[])=false:=aC f;obtain rfl:n=false:=by rw[C.o];simp only[o.o,t.o,u.o,I,decide_true,bj,bi,bw,aZ,Bool.not_true,Bool.not_false]
    have af:b.toList.isEmpty=false:=by rw[cw];cases e:b.data.toList with
     |nil=>exact absurd e f
     |cons a l=>rfl
    clear I f
   case' pos=>
    have J:=hid (show decide (b.data.toList=[])=true from aI f);obtain rfl:=eb.1 f;clear f;by_cases g:i=0
    case' neg=>
     have K:decide (i=0)=false:=aC g;obtain rfl:n=false:=by rw[C.o];simp only[o.o,t.o,u.o,J.o,K,decide_true,bj,bi,bw,aZ,Bool.not_true,Bool.not_false]
     have ac:((i:Int) == 0)=false:=by rw[aL];omega
     have M:decide (i=0)=false:=aC g;clear K g
    case' pos=>
     have ad:=hid (show decide (i=0)=true from aI g);have ac:((i:Int) == 0)=true:=by rw[cf];omega
     have M:decide (i=0)=true:=aI g;clear g;obtain rfl:n=true:=by rw[C.o];simp only[o.o,t.o,u.o,J.o,ad.o,decide_true,bj,bi,bw,aZ,Bool.not_true,Bool.not_false]
 all_goals
  refine ap ?_
  repeat(any_goals(go_big_quiet_step (with_reducible first|exact D _ _|exact s _ _)))
  refine qz λwq r=> ?_;go_wp2;go_ret;exact⟨rfl,H.trans (r.mono H.size)⟩
theorem refbare_2 (k nt nr ni A B C:Int) (b:ByteArray) (s:Bool) (dA:Option Addr) (dn dc:Nat) (r D E F G H:Int) (c:ByteArray) (eA:Option Addr) (q ec:Nat) (w:World):
  Calls Tryz.prog 160 #[.agg #[k,nt,nr,ni,A,B,C,b,s,.slice dA dn dc,r,D,E,F,G,H,c,.slice eA q ec],false,false,true,false,false] w λe w'=>e= .returned (.bool ((Gid.none ⟨⟨A,B⟩,C⟩) && (decide (b.data.toList=[])) && (!s) && (Gid.none ⟨⟨r,D⟩,E⟩) && (Gid.none ⟨⟨F,G⟩,H⟩) && (decide (c.data.toList=[])) && (decide (q=0))))∧Below w.heap.size w w':=by
 obtain⟨p,ha⟩:∃a,a=((Gid.none ⟨⟨A,B⟩,C⟩) && (decide (b.data.toList=[])) && (!s) && (Gid.none ⟨⟨r,D⟩,E⟩) && (Gid.none ⟨⟨F,G⟩,H⟩) && (decide (c.data.toList=[])) && (decide (q=0))):=⟨_,rfl⟩;rw[<-ha];have z:=hid ha;clear ha;obtain⟨W,K⟩:∃W,W=w.alloc (.cells #[k,nt,nr,ni,A,B,C,b,s,.slice dA dn dc,r,D,E,F,G,H,c,.slice eA q ec] 125):=⟨_,rfl⟩;have J:Below w.heap.size w W:=by subst K;exact(ag _ _).alloc (aa _) _
 have HA:=hid (show W.heap[w.heap.size]? =some (.cells #[k,nt,nr,ni,A,B,C,b,s,.slice dA dn dc,r,D,E,F,G,H,c,.slice eA q ec] 125 (0,0)) by subst K;exact an _ _);have HW:=hid K;have aj:w.heap.size<W.heap.size:=by subst K;simp
 clear K;go_enter bM,bA;go_upto_region 1 with(fail);rw[<-HW.o];obtain⟨x4,x5,x6,x7,x8,x9,T,U,V,X,Y,Z,ab,ac⟩:=rgz HA.o;have u:=λd L=>ak (aT A B C (grow (redrawn W d) L));cases m:Gid.none ⟨⟨A,B⟩,C⟩
 case' false=>
  rw[m] at u;obtain rfl:p=false:=by rw[z.o];simp only[m,decide_true,bj,bi,bw,aZ,Bool.not_true,Bool.not_false]
  clear m
 case' true=>
  rw[m] at u;have j:=hid m;clear m;by_cases f:b.data.toList=[]
  case' neg=>
   have M:decide (b.data.toList=[])=false:=aC f;obtain rfl:p=false:=by rw[z.o];simp only[j.o,M,decide_true,bj,bi,bw,aZ,Bool.not_true,Bool.not_false]
   have al:b.toList.isEmpty=false:=by rw[cw];cases e:b.data.toList with
    |nil=>exact absurd e f
    |cons a l=>rfl
   clear M f
  case' pos=>
   have n:=hid (show decide (b.data.toList=[])=true from aI f);obtain rfl:=eb.1 f;clear f;cases s
   case' true=>
    obtain rfl:p=false:=by rw[z.o];simp only[j.o,n.o,decide_true,bj,bi,bw,aZ,Bool.not_true,Bool.not_false]
   case' false=>
    skip
 all_goals
  refine ap ?_
  repeat(any_goals(go_big_quiet_step (with_reducible first|exact u _ _)))
  refine qz λwq t=> ?_
 any_goals(go_wp2;go_ret;exact⟨rfl,J.trans (t.mono J.size)⟩)
 have N:=J.trans (t.mono J.size);have ad:=hid ((t.block _ aj).trans HA.o);clear t x4 x5 x6 x7 x8 x9 T U V X Y Z ab ac u;obtain⟨R,ae⟩:∃R,R=wq:=⟨_,rfl⟩;rw[<-ae] at N ad ⊢;clear ae;go_upto_region 3 with(fail);obtain⟨x4,x5,x6,x7,x8,x9,T,U,V,X,Y,Z,ab,ac⟩:=rgz ad.o;have I:=λd L=>ak (aT r D E (grow (redrawn R d) L));have v:=λd L=>ak (aT F G H (grow (redrawn R d) L));cases o:Gid.none ⟨⟨r,D⟩,E⟩
 case' false=>
  rw[o] at I;obtain rfl:p=false:=by rw[z.o];simp only[j.o,n.o,o,decide_true,bj,bi,bw,aZ,Bool.not_true,Bool.not_false]
  clear o
 case' true=>
  rw[o] at I;have x:=hid o;clear o;cases g:Gid.none ⟨⟨F,G⟩,H⟩
  case' false=>
   rw[g] at v;obtain rfl:p=false:=by rw[z.o];simp only[j.o,n.o,x.o,g,decide_true,bj,bi,bw,aZ,Bool.not_true,Bool.not_false]
   clear g
  case' true=>
   rw[g] at v;have y:=hid g;clear g;by_cases h:c.data.toList=[]
   case' neg=>
    have O:decide (c.data.toList=[])=false:=aC h;obtain rfl:p=false:=by rw[z.o];simp only[j.o,n.o,x.o,y.o,O,decide_true,bj,bi,bw,aZ,Bool.not_true,Bool.not_false]
    have am:c.toList.isEmpty=false:=by rw[cw];cases e:c.data.toList with
     |nil=>exact absurd e h
     |cons a l=>rfl
    clear O h
   case' pos=>
    have P:=hid (show decide (c.data.toList=[])=true from aI h);obtain rfl:=eb.1 h;clear h;by_cases i:q=0
    case' neg=>
     have Q:decide (q=0)=false:=aC i;obtain rfl:p=false:=by rw[z.o];simp only[j.o,n.o,x.o,y.o,P.o,Q,decide_true,bj,bi,bw,aZ,Bool.not_true,Bool.not_false]
     have af:((q:Int) == 0)=false:=by rw[aL];omega
     have S:decide (q=0)=false:=aC i;clear Q i
    case' pos=>
     have ah:=hid (show decide (q=0)=true from aI i);have af:((q:Int) == 0)=true:=by rw[cf];omega
     have S:decide (q=0)=true:=aI i;clear i;obtain rfl:p=true:=by rw[z.o];simp only[j.o,n.o,x.o,y.o,P.o,ah.o,decide_true,bj,bi,bw,aZ,Bool.not_true,Bool.not_false]
 all_goals
  refine ap ?_
  repeat(any_goals(go_big_quiet_step (with_reducible first|exact I _ _|exact v _ _)))
  refine qz λwq t=> ?_;go_wp2;go_ret;exact⟨rfl,N.trans (t.mono N.size)⟩
theorem refbare_3 (k R S T s t u:Int) (b:ByteArray) (n:Bool) (U:Option Addr) (m V:Nat) (z X Y Z er ei:Int) (v:ByteArray) (eA:Option Addr) (h ec:Nat) (w:World):
  Calls Tryz.prog 160 #[.agg #[k,R,S,T,s,t,u,b,n,.slice U m V,z,X,Y,Z,er,ei,v,.slice eA h ec],false,false,false,true,false] w λe w'=>e= .returned (.bool ((Gid.none ⟨⟨s,t⟩,u⟩) && (decide (b.data.toList=[])) && (!n) && (decide (m=0)) && (decide (h=0))))∧Below w.heap.size w w':=by
 obtain⟨o,ha⟩:∃a,a=((Gid.none ⟨⟨s,t⟩,u⟩) && (decide (b.data.toList=[])) && (!n) && (decide (m=0)) && (decide (h=0))):=⟨_,rfl⟩;rw[<-ha];have y:=hid ha;clear ha;obtain⟨W,A⟩:∃W,W=w.alloc (.cells #[k,R,S,T,s,t,u,b,n,.slice U m V,z,X,Y,Z,er,ei,v,.slice eA h ec] 125):=⟨_,rfl⟩;have x:Below w.heap.size w W:=by subst A;exact(ag _ _).alloc (aa _) _
 have HA:=hid (show W.heap[w.heap.size]? =some (.cells #[k,R,S,T,s,t,u,b,n,.slice U m V,z,X,Y,Z,er,ei,v,.slice eA h ec] 125 (0,0)) by subst A;exact an _ _);have HW:=hid A;have ae:w.heap.size<W.heap.size:=by subst A;simp
 clear A;go_enter bM,bA;go_upto_region 1 with(fail);rw[<-HW.o];obtain⟨x4,x5,x6,x7,x8,x9,H,I,J,K,L,M,N,O⟩:=rgz HA.o;have q:=λd os=>ak (aT s t u (grow (redrawn W d) os));cases g:Gid.none ⟨⟨s,t⟩,u⟩
 case' false=>
  rw[g] at q;obtain rfl:o=false:=by rw[y.o];simp only[g,decide_true,bj,bi,bw,aZ,Bool.not_true,Bool.not_false]
  clear g
 case' true=>
  rw[g] at q;have j:=hid g;clear g;by_cases c:b.data.toList=[]
  case' neg=>
   have B:decide (b.data.toList=[])=false:=aC c;obtain rfl:o=false:=by rw[y.o];simp only[j.o,B,decide_true,bj,bi,bw,aZ,Bool.not_true,Bool.not_false]
   have af:b.toList.isEmpty=false:=by rw[cw];cases e:b.data.toList with
    |nil=>exact absurd e c
    |cons a l=>rfl
   clear B c
  case' pos=>
   have r:=hid (show decide (b.data.toList=[])=true from aI c);obtain rfl:=eb.1 c;clear c;cases n
   case' true=>
    obtain rfl:o=false:=by rw[y.o];simp only[j.o,r.o,decide_true,bj,bi,bw,aZ,Bool.not_true,Bool.not_false]
   case' false=>
    skip;by_cases i:m=0
    case' neg=>
     have C:decide (m=0)=false:=aC i;obtain rfl:o=false:=by rw[y.o];simp only[j.o,r.o,C,decide_true,bj,bi,bw,aZ,Bool.not_true,Bool.not_false]
     have ab:decide (0<m)=true:=aI (by omega);clear C i
    case' pos=>
     have D:=hid (show decide (m=0)=true from aI i);have ab:decide (0<m)=false:=aC (by omega);clear i
 all_goals
  refine ap ?_
  repeat(any_goals(go_big_quiet_step (with_reducible first|exact q _ _)))
  refine qz λwq p=> ?_
 any_goals(go_wp2;go_ret;exact⟨rfl,x.trans (p.mono x.size)⟩)
 have E:=x.trans (p.mono x.size);have P:=hid ((p.block _ ae).trans HA.o);clear p x4 x5 x6 x7 x8 x9 H I J K L M N O q;obtain⟨W1,Q⟩:∃W1,W1=wq:=⟨_,rfl⟩;rw[<-Q] at E P ⊢;clear Q;go_upto_region 3 with(fail);obtain⟨x4,x5,x6,x7,x8,x9,H,I,J,K,L,M,N,O⟩:=rgz P.o;by_cases f:h=0
 case' neg=>
  have F:decide (h=0)=false:=aC f;obtain rfl:o=false:=by rw[y.o];simp only[j.o,r.o,D.o,F,decide_true,bj,bi,bw,aZ,Bool.not_true,Bool.not_false]
  have ac:((h:Int) == 0)=false:=by rw[aL];omega
  have G:decide (h=0)=false:=aC f;clear F f
 case' pos=>
  have ad:=hid (show decide (h=0)=true from aI f);have ac:((h:Int) == 0)=true:=by rw[cf];omega
  have G:decide (h=0)=true:=aI f;clear f;obtain rfl:o=true:=by rw[y.o];simp only[j.o,r.o,D.o,ad.o,decide_true,bj,bi,bw,aZ,Bool.not_true,Bool.not_false]
 all_goals
  refine ap ?_
  repeat(any_goals(go_big_quiet_step (fail)))
  refine qz λwq p=> ?_;go_wp2;go_ret;exact⟨rfl,E.trans (p.mono E.size)⟩
theorem refbare_4 (k nt nr ni z A B:Int) (b:ByteArray) (s:Bool) (dA:Option Addr) (r dc:Nat) (q C D E F G:Int) (c:ByteArray) (eA:Option Addr) (en ec:Nat) (w:World):
  Calls Tryz.prog 160 #[.agg #[k,nt,nr,ni,z,A,B,b,s,.slice dA r dc,q,C,D,E,F,G,c,.slice eA en ec],false,false,false,false,true] w λe w'=>e= .returned (.bool ((Gid.none ⟨⟨z,A⟩,B⟩) && (decide (b.data.toList=[])) && (!s) && (decide (r=0)) && (Gid.none ⟨⟨q,C⟩,D⟩) && (Gid.none ⟨⟨E,F⟩,G⟩) && (decide (c.data.toList=[]))))∧Below w.heap.size w w':=by
 obtain⟨o,ha⟩:∃a,a=((Gid.none ⟨⟨z,A⟩,B⟩) && (decide (b.data.toList=[])) && (!s) && (decide (r=0)) && (Gid.none ⟨⟨q,C⟩,D⟩) && (Gid.none ⟨⟨E,F⟩,G⟩) && (decide (c.data.toList=[]))):=⟨_,rfl⟩;rw[<-ha];have y:=hid ha;clear ha;obtain⟨W,L⟩:∃W,W=w.alloc (.cells #[k,nt,nr,ni,z,A,B,b,s,.slice dA r dc,q,C,D,E,F,G,c,.slice eA en ec] 125):=⟨_,rfl⟩;have J:Below w.heap.size w W:=by subst L;exact(ag _ _).alloc (aa _) _
 have HA:=hid (show W.heap[w.heap.size]? =some (.cells #[k,nt,nr,ni,z,A,B,b,s,.slice dA r dc,q,C,D,E,F,G,c,.slice eA en ec] 125 (0,0)) by subst L;exact an _ _);have HW:=hid L;have ah:w.heap.size<W.heap.size:=by subst L;simp
 clear L;go_enter bM,bA;go_upto_region 1 with(fail);rw[<-HW.o];obtain⟨x4,x5,x6,x7,x8,x9,S,T,U,V,X,Y,Z,ab⟩:=rgz HA.o;have u:=λd M=>ak (aT z A B (grow (redrawn W d) M));cases j:Gid.none ⟨⟨z,A⟩,B⟩
 case' false=>
  rw[j] at u;obtain rfl:o=false:=by rw[y.o];simp only[j,decide_true,bj,bi,bw,aZ,Bool.not_true,Bool.not_false]
  clear j
 case' true=>
  rw[j] at u;have i:=hid j;clear j;by_cases f:b.data.toList=[]
  case' neg=>
   have N:decide (b.data.toList=[])=false:=aC f;obtain rfl:o=false:=by rw[y.o];simp only[i.o,N,decide_true,bj,bi,bw,aZ,Bool.not_true,Bool.not_false]
   have aj:b.toList.isEmpty=false:=by rw[cw];cases e:b.data.toList with
    |nil=>exact absurd e f
    |cons a l=>rfl
   clear N f
  case' pos=>
   have m:=hid (show decide (b.data.toList=[])=true from aI f);obtain rfl:=eb.1 f;clear f;cases s
   case' true=>
    obtain rfl:o=false:=by rw[y.o];simp only[i.o,m.o,decide_true,bj,bi,bw,aZ,Bool.not_true,Bool.not_false]
   case' false=>
    skip;by_cases p:r=0
    case' neg=>
     have O:decide (r=0)=false:=aC p;obtain rfl:o=false:=by rw[y.o];simp only[i.o,m.o,O,decide_true,bj,bi,bw,aZ,Bool.not_true,Bool.not_false]
     have ae:decide (0<r)=true:=aI (by omega);clear O p
    case' pos=>
     have v:=hid (show decide (r=0)=true from aI p);have ae:decide (0<r)=false:=aC (by omega);clear p
 all_goals
  refine ap ?_
  repeat(any_goals(go_big_quiet_step (with_reducible first|exact u _ _)))
  refine qz λwq t=> ?_
 any_goals(go_wp2;go_ret;exact⟨rfl,J.trans (t.mono J.size)⟩)
 have P:=J.trans (t.mono J.size);have ac:=hid ((t.block _ ah).trans HA.o);clear t x4 x5 x6 x7 x8 x9 S T U V X Y Z ab u;obtain⟨R,ad⟩:∃R,R=wq:=⟨_,rfl⟩;rw[<-ad] at P ac ⊢;clear ad;go_upto_region 3 with(fail);obtain⟨x4,x5,x6,x7,x8,x9,S,T,U,V,X,Y,Z,ab⟩:=rgz ac.o;have H:=λd M=>ak (aT q C D (grow (redrawn R d) M));have x:=λd M=>ak (aT E F G (grow (redrawn R d) M));cases n:Gid.none ⟨⟨q,C⟩,D⟩
 case' false=>
  rw[n] at H;obtain rfl:o=false:=by rw[y.o];simp only[i.o,m.o,v.o,n,decide_true,bj,bi,bw,aZ,Bool.not_true,Bool.not_false]
  clear n
 case' true=>
  rw[n] at H;have I:=hid n;clear n;cases g:Gid.none ⟨⟨E,F⟩,G⟩
  case' false=>
   rw[g] at x;obtain rfl:o=false:=by rw[y.o];simp only[i.o,m.o,v.o,I.o,g,decide_true,bj,bi,bw,aZ,Bool.not_true,Bool.not_false]
   clear g
  case' true=>
   rw[g] at x;have K:=hid g;clear g;by_cases h:c.data.toList=[]
   case' neg=>
    have Q:decide (c.data.toList=[])=false:=aC h;obtain rfl:o=false:=by rw[y.o];simp only[i.o,m.o,v.o,I.o,K.o,Q,decide_true,bj,bi,bw,aZ,Bool.not_true,Bool.not_false]
    have al:c.toList.isEmpty=false:=by rw[cw];cases e:c.data.toList with
     |nil=>exact absurd e h
     |cons a l=>rfl
    clear Q h
   case' pos=>
    have af:=hid (show decide (c.data.toList=[])=true from aI h);obtain rfl:=eb.1 h;clear h;obtain rfl:o=true:=by rw[y.o];simp only[i.o,m.o,v.o,I.o,K.o,af.o,decide_true,bj,bi,bw,aZ,Bool.not_true,Bool.not_false]
 all_goals
  refine ap ?_
  repeat(any_goals(go_big_quiet_step (with_reducible first|exact H _ _|exact x _ _)))
  refine qz λwq t=> ?_;go_wp2;go_ret;exact⟨rfl,P.trans (t.mono P.size)⟩
end
end
end Go.Proofs.YtkhmicndehlneaaGreatDoor
