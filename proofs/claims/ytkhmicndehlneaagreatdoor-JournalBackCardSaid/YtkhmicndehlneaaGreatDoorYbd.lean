/- Part 4 of the walks and plain laws that this claim uses, joined. Conditions: as each theorem states. -/
import Derived.Deep.Light
import Derived.Test.YtkhmicndehlneaaGreatDoorYbc
namespace Go.Proofs.YtkhmicndehlneaaGreatDoor
set_option maxRecDepth 100000
set_option maxHeartbeats 16000000
set_option linter.unusedVariables false
section
section
open Go.RowKit Go.Lib Go.Sort
theorem tl_eq {s:ByteArray}:s.toList=s.data.toList:=eS s
def signP (c:Nat):Prop:=(48<=c∧c<=57)∨(65<=c∧c<=90)∨(97<=c∧c<=122)∨c=46∨c=45∨c=95
theorem signB_iff (b:UInt8):signB b=true↔signP b.toNat:=by
 simp only[signB,signP,ch,ap,ak];omega
theorem all_get {s:ByteArray} {p:UInt8->Bool} (h:∀i (hi:i<s.size),p s[i]=true):s.data.toList.all p=true:=by
 rw[dJ];intro b c;obtain⟨i,hi,e⟩:=dj.1 c;have a:i<s.size:=by simpa using hi
 have:=h i a;rw[<-e];exact this
theorem all_not {s:ByteArray} {p:UInt8->Bool} {i:Nat} (hi:i<s.size) (h:p s[i]=false):s.data.toList.all p=false:=by
 cases e:s.data.toList.all p with
 |false=>rfl
 | true=>
  rw[dJ] at e
  have:=e s[i] (by
   refine dj.2 ⟨i,by simpa using hi,rfl⟩)
  rw[h] at this;cases this
theorem jI (s:ByteArray) (w:World) (hs:s.size<=9223372036854775807):
    Calls Tryz.prog 159 #[s] w λe w'=>e= .returned (.bool (ek s))∧w'=w:=by
  obtain⟨b,p⟩:∃v,v=ek s:=⟨_,rfl⟩;rw[<-p];have g:=hid p;clear p;by_cases j:s.data.toList=[]
  · obtain rfl:b=false:=by rw[g.out];simp[ek,j]
    obtain rfl:=gm.1 j;go_enter Tryz.func159,Tryz.ntmps159;go_wp2;go_ret;exact⟨rfl,rfl⟩
  have C:s.toList.isEmpty=false:=by
    rw[tl_eq];cases e:s.data.toList with
    |nil=>exact absurd e j
    |cons a l=>rfl
  by_cases q:s.size<=32
  · have A : ¬(32:Int)<(s.size:Int):=by omega
    by_cases m:s.data.toList=[46]
    · obtain rfl:b=false:=by rw[g.out];simp[ek,m]
      obtain rfl:s=⟨#[46]⟩:=fD (eH.1 m);go_enter Tryz.func159,Tryz.ntmps159;go_wp2;go_ret;exact⟨rfl,rfl⟩
    have D:(s.toList == [46])=false:=by rw[tl_eq];simp[m]
    by_cases n:s.data.toList=[46,46]
    · obtain rfl:b=false:=by rw[g.out];simp[ek,n]
      obtain rfl:s=⟨#[46,46]⟩:=fD (eH.1 n);go_enter Tryz.func159,Tryz.ntmps159;go_wp2;go_ret;exact⟨rfl,rfl⟩
    have E:(s.toList == [46,46])=false:=by rw[tl_eq];simp[n]
    have t:b=s.data.toList.all signB:=by
      rw[g.out];simp only[ek];rw[aN (show s.data.toList≠[] from j),aN q,aN (show s.data.toList≠[46] from m),aN (show s.data.toList≠[46,46] from n)];simp only[aY]
    have o:=hid t;clear t j q m n;go_enter Tryz.func159,Tryz.ntmps159;go_wp2;go_loop [3] (λi=>∃k:Nat,k<=s.size∧i= .int .i64 k∧Hid (∀i (f:i<s.size),i<k->signB s[i]=true)) (λi=>s.size-(RowKit.intOf i).toNat)
    case atStart=>exact⟨0,by omega,rfl,λi _ f=>absurd f (by omega)⟩
    case round =>
      obtain⟨k,F,rfl,u⟩:=hrel;by_cases x:k<s.size
      · obtain ⟨c,y⟩:∃c,c=s[k].toNat:=⟨_,rfl⟩;cases d:signB s[k] with
        | true =>
          have r:=(signB_iff _).1 d;unfold signP at r;have z:Hid (∀i (f:i<s.size),i<k+1->signB s[i]=true):=λi f B=>by
            rcases cj i k with h|h
            · exact u.out i f h
            · obtain rfl:i=k:=by omega
              exact d
          clear d y;go_wp2
          all_goals first
            |(exfalso;omega)
            |(exfalso;go_light;simp only[ij,Bool.not_eq_false',aU,ak,aV,ce,ne_eq] at *;omega)
            | (go_round
               case rel=>exact⟨k+1,by omega,by go_num,z⟩
               case measure=>simp[RowKit.intOf];omega)
        | false=>
          obtain rfl:b=false:=by rw[o.out];exact all_not x d
          have r:¬signP s[k].toNat:=by rw[<-signB_iff,d];decide
          unfold signP at r;clear d y;go_wp2
          all_goals first
            |(exfalso;omega)
            |(exfalso;go_light;simp only[ij,Bool.not_eq_false',aU,ak,aV,ce,ne_eq] at *;omega)
            |(go_ret;exact⟨rfl,rfl⟩)
      · obtain rfl:k=s.size:=by omega
        obtain rfl:b=true:=by rw[o.out];exact all_get (λi f=>u.out i f f)
        go_wp2;go_ret;exact⟨rfl,rfl⟩
  · have A:(32:Int)<(s.size:Int):=by omega
    obtain rfl:b=false:=by rw[g.out];simp[ek,q]
    go_enter Tryz.func159,Tryz.ntmps159;go_wp2;go_ret;exact⟨rfl,rfl⟩
end
section
open Go.RowKit Go.Lib Go.Sort
set_option linter.unusedSimpArgs false
theorem getD_get (s:ByteArray) (i:Nat) (h:i<s.size):s.data.toList.getD i 0=s[i]:=by
 rw[ae,an (by simpa using h)];rfl
def firstV:Option (Nat×Nat)->Value
 |none=> .tuple #[(0:Int),(0:Int),false]
 |some (c,k)=> .tuple #[.int .i64 c,.int .i64 k,true]
def bp (s:ByteArray) (i:Nat):Nat:=(s.data.toList.getD i 0).toNat
theorem fj (s:ByteArray) (i:Nat) (h:i<s.size):bp s i=s[i].toNat:=by unfold bp;rw[getD_get s i h]
theorem byteN_lt (s:ByteArray) (i:Nat):bp s i<256:=fJ _
def cF (a:Nat) (b:Nat->Nat):Nat->Nat
 |0=>a
 |j+1=>cF a b j*64+(b (j+1)-128)
theorem cF1 (a:Nat) (b:Nat->Nat):cF a b 1=a*64+(b 1-128):=rfl
theorem cF2 (a:Nat) (b:Nat->Nat):cF a b 2=(a*64+(b 1-128))*64+(b 2-128):=rfl
theorem cF3 (a:Nat) (b:Nat->Nat):cF a b 3=((a*64+(b 1-128))*64+(b 2-128))*64+(b 3-128):=rfl
theorem cF_le (a:Nat) (b:Nat->Nat) (ha:a<32) (hb:∀i,b i<256) (j:Nat) (hj:j<=3):cF a b j<=9000000:=by
 have c:=hb 1;have d:=hb 2;have f:=hb 3;obtain rfl|rfl|rfl|rfl:j=0∨j=1∨j=2∨j=3:=by omega
 ·have e:cF a b 0=a:=rfl;rw[e];omega
 ·rw[cF1];omega
 ·rw[cF2];omega
 ·rw[cF3];omega
theorem rfL_byte (s:ByteArray):rfL s.data.toList=rfN s.size (bp s 0) (bp s 1) (bp s 2) (bp s 3):=by
 unfold rfL bp;rw[show s.data.toList.length=s.size by simp]
theorem first_low (s:ByteArray) (w:World) (hs:s.size<=9223372036854775807) (h0:0<s.size) (hb:bp s 0<128):
  Calls Tryz.prog 212 #[s] w λe w'=>e= .returned (firstV (rfL s.data.toList))∧w'=w:=by
 have a:rfL s.data.toList=some (s[0].toNat,1):=by
  rw[rfL_byte,<-fj s 0 h0];unfold rfN;rw[aJ hb]
 rw[a];rw[fj s 0 h0] at hb;show Calls _ _ _ _ λe w'=>e= .returned (.tuple #[.int .i64 (s[0].toNat:Nat),.int .i64 (1:Nat),true])∧w'=w;have b:=s[0].toNat_lt;have c:(s[0].toNat:Int)<128:=by omega
 clear a;go_enter iJ,gZ;go_wp2;go_ret3;exact⟨rfl,rfl⟩
theorem first_bad (s:ByteArray) (w:World) (hs:s.size<=9223372036854775807) (h0:0<s.size) (hb:(128<=bp s 0∧bp s 0<194)∨245<=bp s 0):
  Calls Tryz.prog 212 #[s] w λe w'=>e= .returned (firstV (rfL s.data.toList))∧w'=w:=by
 have a:rfL s.data.toList=none:=by
  rw[rfL_byte];unfold rfN;rw[aC (by omega),aC (by omega),aC (by omega),aC (by omega)]
 rw[a];rw[fj s 0 h0] at hb;show Calls _ _ _ _ λe w'=>e= .returned (.tuple #[(0:Int),(0:Int),false])∧w'=w;have j:=s[0].toNat_lt;clear a;rcases hb with hb|hb
 ·have b:¬(s[0].toNat:Int)<128:=by omega
  have c:¬(194:Int)<=(s[0].toNat:Int):=by omega
  have d:¬(224:Int)<=(s[0].toNat:Int):=by omega
  have f:¬(240:Int)<=(s[0].toNat:Int):=by omega
  clear hb;go_enter iJ,gZ;go_wp2;go_ret3;exact⟨rfl,rfl⟩
 ·have b:¬(s[0].toNat:Int)<128:=by omega
  have c:(194:Int)<=(s[0].toNat:Int):=by omega
  have g:¬(s[0].toNat:Int)<224:=by omega
  have d:(224:Int)<=(s[0].toNat:Int):=by omega
  have h:¬(s[0].toNat:Int)<240:=by omega
  have f:(240:Int)<=(s[0].toNat:Int):=by omega
  have i:¬(s[0].toNat:Int)<245:=by omega
  clear hb;go_enter iJ,gZ;go_wp2;go_ret3;exact⟨rfl,rfl⟩
theorem rf_2 (s:ByteArray) (hb:194<=bp s 0∧bp s 0<224) (X:Nat) (hX:X=cF (bp s 0-192) (bp s) 1):
  (s.size<2->rfL s.data.toList=none)∧(∀m,1<=m->m<2->¬cN (bp s m)->rfL s.data.toList=none)∧
  (2<=s.size->(∀m,1<=m->m<2->cN (bp s m))->(True->rfL s.data.toList=some (X,2))∧(¬True->rfL s.data.toList=none)):=by
 have c:rfL s.data.toList=(if 2<=s.size∧cN (bp s 1) then some (X,2) else none):=by
  rw[rfL_byte,hX];unfold rfN;rw[aC (by omega),aJ hb];rfl
 refine⟨λh=>by rw[c,aC (by omega)],λm d e a=> ?_,λd e=>⟨λa=> ?_,λa=> ?_⟩⟩
 ·rw[c,aC];intro b;obtain rfl:m=1:=by omega
  all_goals first|exact a b.2.1|exact a b.2.2.1|exact a b.2.2.2.1|exact a b.2
 ·rw[c,aJ];exact⟨d,e 1 (by omega) (by omega)⟩
 ·rw[c,aC];intro b;exact a trivial
theorem first_2 (s:ByteArray) (w:World) (hs:s.size<=9223372036854775807) (h0:0<s.size) (hb:194<=bp s 0∧bp s 0<224):
  Calls Tryz.prog 212 #[s] w λe w'=>e= .returned (firstV (rfL s.data.toList))∧w'=w:=by
 obtain⟨o,p,q⟩:=rf_2 s hb _ rfl;obtain⟨R,B⟩:∃R,R=rfL s.data.toList:=⟨_,rfl⟩;rw[<-B] at o p q ⊢;clear B;have g:=cF_le (bp s 0-192) (bp s) (by omega) (byteN_lt s);have k:=hb;rw[fj s 0 h0] at k;have U:=s[0].toNat_lt;have V:¬(s[0].toNat:Int)<128:=by omega
 have W:(194:Int)<=(s[0].toNat:Int):=by omega
 have Y:(s[0].toNat:Int)<224:=by omega
 have D:Hid (∀m,1<=m->m<2->¬cN (bp s m)->R=none):=p;have u:Hid (2<=s.size->(∀m,1<=m->m<2->cN (bp s m))->((λX=>True) (cF (bp s 0-192) (bp s) 1)->R=some (cF (bp s 0-192) (bp s) 1,2))∧(¬(λX=>True) (cF (bp s 0-192) (bp s) 1)->R=none)):=q;have v:=hid g;by_cases E:s.size<2
 ·obtain rfl:=o E;have M:(s.size:Int)<2:=by omega
  show Calls _ _ _ _ λe w'=>e= .returned (.tuple #[(0:Int),(0:Int),false])∧w'=w;clear o p q g hb k;go_enter iJ,gZ;go_wp2;go_ret3;exact⟨rfl,rfl⟩
 have M:¬(s.size:Int)<2:=by omega
 have x:(s[0].toNat:Int)-192=((cF (bp s 0-192) (bp s) 0:Nat):Int):=by
  show _=((bp s 0-192:Nat):Int);rw[fj s 0 h0];omega
 have y:=hid x;have N:=hid hb;clear o p q g hb k x;obtain⟨a,r⟩:∃a,a=bp s 0-192:=⟨_,rfl⟩;rw[<-r] at y u v;have F:=hid r;clear r;go_enter iJ,gZ;go_wp2;go_loop [7,8] (λc i=>∃j C:Nat,j<2∧i= .int .i64 (j+1:Nat)∧c= .int .i64 C∧Hid (C=cF a (bp s) j)∧Hid (∀m,1<=m->m<=j->cN (bp s m))) (λ_ i=>2-(RowKit.intOf i).toNat)
 case atStart=>exact⟨0,cF a (bp s) 0,by omega,rfl,by rw[y.out],rfl,λm l G=>absurd l (by omega)⟩
 case round=>
  obtain⟨j,C,Z,rfl,rfl,t,A⟩:=hrel;have S:C<=9000000:=by rw[t.out];exact v.out j (by omega)
  by_cases H:j+1<2
  ·have O:j+1<s.size:=by omega
   have d0:=s[j+1].toNat_lt;have z:=fj s (j+1) O;have n:=hid z;clear z;by_cases d:cN (bp s (j+1))
   ·have b:=d;rw[n.out] at b;have I:¬(s[j+1].toNat:Int)<128:=by have:=b.1;omega
    have P:¬(192:Int)<=(s[j+1].toNat:Int):=by have:=b.2;omega
    have J:Hid (((C:Int)*64+(s[j+1].toNat:Int)-128)=((cF a (bp s) (j+1):Nat):Int)):=by
     show _=((cF a (bp s) j*64+(bp s (j+1)-128):Nat):Int);rw[<-t.out,n.out];omega
    have K:Hid (∀m,1<=m->m<=j+1->cN (bp s m)):=λm l G=>by
     rcases cj j m with h|h
     ·obtain rfl:m=j+1:=by omega
      exact d
     ·exact A.out m l h
    clear d b;go_wp2;go_round
    case rel=>exact⟨j+1,cF a (bp s) (j+1),by omega,by go_num,by rw[<-J.out],rfl,K⟩
    case measure=>simp[RowKit.intOf];omega
   ·obtain rfl:R=none:=D.out (j+1) (by omega) H d;have b:¬(128<=s[j+1].toNat∧s[j+1].toNat<192):=by rw[<-n.out];exact d
    clear d;by_cases L:s[j+1].toNat<128
    ·have I:(s[j+1].toNat:Int)<128:=by omega
     clear b L;go_wp2;go_ret3;exact⟨rfl,rfl⟩
    ·have I:¬(s[j+1].toNat:Int)<128:=by omega
     have P:(192:Int)<=(s[j+1].toNat:Int):=by omega
     clear b L;go_wp2;go_ret3;exact⟨rfl,rfl⟩
  ·obtain rfl:j=1:=by omega
   have f:=u.out (by omega) (λm l G=>A.out m l (by omega));rw[<-t.out] at f
   try simp only at f
   have T:C<=2047:=by
    rw[t.out];have r:a<=31:=by rw[F.out];have:=N.out;omega
    have q1:=(A.out 1 (by omega) (by omega)).2;rw[cF1];omega
   obtain⟨f,Q⟩:=f;obtain rfl:R=some (C,2):=f trivial;have v0:¬(1114111:Int)<(C:Int):=by omega
   have v1:¬(55296:Int)<=(C:Int):=by omega
   clear f Q;go_wp2;go_ret3;exact⟨rfl,rfl⟩
theorem rf_3 (s:ByteArray) (hb:224<=bp s 0∧bp s 0<240) (X:Nat) (hX:X=cF (bp s 0-224) (bp s) 2):
  (s.size<3->rfL s.data.toList=none)∧(∀m,1<=m->m<3->¬cN (bp s m)->rfL s.data.toList=none)∧
  (3<=s.size->(∀m,1<=m->m<3->cN (bp s m))->((2048<=X∧(X<55296∨57344<=X))->rfL s.data.toList=some (X,3))∧(¬(2048<=X∧(X<55296∨57344<=X))->rfL s.data.toList=none)):=by
 have c:rfL s.data.toList=(if 3<=s.size∧cN (bp s 1)∧cN (bp s 2)∧2048<=X∧(X<55296∨57344<=X) then some (X,3) else none):=by
  rw[rfL_byte,hX];unfold rfN;rw[aC (by omega),aC (by omega),aJ hb];rfl
 refine⟨λh=>by rw[c,aC (by omega)],λm e d a=> ?_,λe d=>⟨λa=> ?_,λa=> ?_⟩⟩
 ·rw[c,aC];intro b;obtain rfl|rfl:m=1∨m=2:=by omega
  all_goals first|exact a b.2.1|exact a b.2.2.1|exact a b.2.2.2.1|exact a b.2
 ·rw[c,aJ];exact⟨e,d 1 (by omega) (by omega),d 2 (by omega) (by omega),a.1,a.2⟩
 ·rw[c,aC];intro b;exact a ⟨b.2.2.2.1,b.2.2.2.2⟩
theorem first_3 (s:ByteArray) (w:World) (hs:s.size<=9223372036854775807) (h0:0<s.size) (hb:224<=bp s 0∧bp s 0<240):
  Calls Tryz.prog 212 #[s] w λe w'=>e= .returned (firstV (rfL s.data.toList))∧w'=w:=by
 obtain⟨p,q,r⟩:=rf_3 s hb _ rfl;obtain⟨R,G⟩:∃R,R=rfL s.data.toList:=⟨_,rfl⟩;rw[<-G] at p q r ⊢;clear G;have k:=cF_le (bp s 0-224) (bp s) (by omega) (byteN_lt s);have l:=hb;rw[fj s 0 h0] at l;have t0:=s[0].toNat_lt;have t1:¬(s[0].toNat:Int)<128:=by omega
 have u0:(194:Int)<=(s[0].toNat:Int):=by omega
 have u1:¬(s[0].toNat:Int)<224:=by omega
 have u2:(224:Int)<=(s[0].toNat:Int):=by omega
 have u3:(s[0].toNat:Int)<240:=by omega
 have H:Hid (∀m,1<=m->m<3->¬cN (bp s m)->R=none):=q;have y:Hid (3<=s.size->(∀m,1<=m->m<3->cN (bp s m))->((λX=>(2048<=X∧(X<55296∨57344<=X))) (cF (bp s 0-224) (bp s) 2)->R=some (cF (bp s 0-224) (bp s) 2,3))∧(¬(λX=>(2048<=X∧(X<55296∨57344<=X))) (cF (bp s 0-224) (bp s) 2)->R=none)):=r;have z:=hid k;by_cases I:s.size<3
 ·obtain rfl:=p I;have U:(s.size:Int)<3:=by omega
  show Calls _ _ _ _ λe w'=>e= .returned (.tuple #[(0:Int),(0:Int),false])∧w'=w;clear p q r k hb l;go_enter iJ,gZ;go_wp2;go_ret3;exact⟨rfl,rfl⟩
 have U:¬(s.size:Int)<3:=by omega
 have A:(s[0].toNat:Int)-224=((cF (bp s 0-224) (bp s) 0:Nat):Int):=by
  show _=((bp s 0-224:Nat):Int);rw[fj s 0 h0];omega
 have B:=hid A;have V:=hid hb;clear p q r k hb l A;obtain⟨a,t⟩:∃a,a=bp s 0-224:=⟨_,rfl⟩;rw[<-t] at B y z;have J:=hid t;clear t;go_enter iJ,gZ;go_wp2;go_loop [7,8] (λc i=>∃j C:Nat,j<3∧i= .int .i64 (j+1:Nat)∧c= .int .i64 C∧Hid (C=cF a (bp s) j)∧Hid (∀m,1<=m->m<=j->cN (bp s m))) (λ_ i=>3-(RowKit.intOf i).toNat)
 case atStart=>exact⟨0,cF a (bp s) 0,by omega,rfl,by rw[B.out],rfl,λm n K=>absurd n (by omega)⟩
 case round=>
  obtain⟨j,C,hj,rfl,rfl,u,v⟩:=hrel;have aa:C<=9000000:=by rw[u.out];exact z.out j (by omega)
  by_cases L:j+1<3
  ·have W:j+1<s.size:=by omega
   have d0:=s[j+1].toNat_lt;have D:=fj s (j+1) W;have o:=hid D;clear D;by_cases f:cN (bp s (j+1))
   ·have b:=f;rw[o.out] at b;have M:¬(s[j+1].toNat:Int)<128:=by have:=b.1;omega
    have Y:¬(192:Int)<=(s[j+1].toNat:Int):=by have:=b.2;omega
    have N:Hid (((C:Int)*64+(s[j+1].toNat:Int)-128)=((cF a (bp s) (j+1):Nat):Int)):=by
     show _=((cF a (bp s) j*64+(bp s (j+1)-128):Nat):Int);rw[<-u.out,o.out];omega
    have O:Hid (∀m,1<=m->m<=j+1->cN (bp s m)):=λm n K=>by
     rcases cj j m with h|h
     ·obtain rfl:m=j+1:=by omega
      exact f
     ·exact v.out m n h
    clear f b;go_wp2;go_round
    case rel=>exact⟨j+1,cF a (bp s) (j+1),by omega,by go_num,by rw[<-N.out],rfl,O⟩
    case measure=>simp[RowKit.intOf];omega
   ·obtain rfl:R=none:=H.out (j+1) (by omega) L f;have b:¬(128<=s[j+1].toNat∧s[j+1].toNat<192):=by rw[<-o.out];exact f
    clear f;by_cases P:s[j+1].toNat<128
    ·have M:(s[j+1].toNat:Int)<128:=by omega
     clear b P;go_wp2;go_ret3;exact⟨rfl,rfl⟩
    ·have M:¬(s[j+1].toNat:Int)<128:=by omega
     have Y:(192:Int)<=(s[j+1].toNat:Int):=by omega
     clear b P;go_wp2;go_ret3;exact⟨rfl,rfl⟩
  ·obtain rfl:j=2:=by omega
   have d:=y.out (by omega) (λm n K=>v.out m n (by omega));rw[<-u.out] at d
   try simp only at d
   have ab:C<=65535:=by
    rw[u.out];have t:a<=15:=by rw[J.out];have:=V.out;omega
    have q1:=(v.out 1 (by omega) (by omega)).2;have q2:=(v.out 2 (by omega) (by omega)).2;rw[cF2];omega
   obtain⟨d,g⟩:=d;by_cases x:C<2048
   ·obtain rfl:R=none:=g (by omega);have E:(C:Int)<2048:=by omega
    clear d g x;go_wp2;go_ret3;exact⟨rfl,rfl⟩
   by_cases F:C<55296
   ·obtain rfl:R=some (C,3):=d (by omega);have E:¬(C:Int)<2048:=by omega
    have Q:¬(1114111:Int)<(C:Int):=by omega
    have S:¬(55296:Int)<=(C:Int):=by omega
    clear d g x F;go_wp2;go_ret3;exact⟨rfl,rfl⟩
   by_cases T:C<57344
   ·obtain rfl:R=none:=g (by omega);have E:¬(C:Int)<2048:=by omega
    have Q:¬(1114111:Int)<(C:Int):=by omega
    have S:(55296:Int)<=(C:Int):=by omega
    have Z:(C:Int)<57344:=by omega
    clear d g x F T;go_wp2;go_ret3;exact⟨rfl,rfl⟩
   ·obtain rfl:R=some (C,3):=d (by omega);have E:¬(C:Int)<2048:=by omega
    have Q:¬(1114111:Int)<(C:Int):=by omega
    have S:(55296:Int)<=(C:Int):=by omega
    have Z:¬(C:Int)<57344:=by omega
    clear d g x F T;go_wp2;go_ret3;exact⟨rfl,rfl⟩
theorem rf_4 (s:ByteArray) (hb:240<=bp s 0∧bp s 0<245) (X:Nat) (hX:X=cF (bp s 0-240) (bp s) 3):
  (s.size<4->rfL s.data.toList=none)∧(∀m,1<=m->m<4->¬cN (bp s m)->rfL s.data.toList=none)∧
  (4<=s.size->(∀m,1<=m->m<4->cN (bp s m))->((65536<=X∧X<=1114111)->rfL s.data.toList=some (X,4))∧(¬(65536<=X∧X<=1114111)->rfL s.data.toList=none)):=by
 have c:rfL s.data.toList=(if 4<=s.size∧cN (bp s 1)∧cN (bp s 2)∧cN (bp s 3)∧65536<=X∧X<=1114111 then some (X,4) else none):=by
  rw[rfL_byte,hX];unfold rfN;rw[aC (by omega),aC (by omega),aC (by omega),aJ hb];rfl
 refine⟨λh=>by rw[c,aC (by omega)],λm e d a=> ?_,λe d=>⟨λa=> ?_,λa=> ?_⟩⟩
 ·rw[c,aC];intro b;obtain rfl|rfl|rfl:m=1∨m=2∨m=3:=by omega
  all_goals first|exact a b.2.1|exact a b.2.2.1|exact a b.2.2.2.1|exact a b.2
 ·rw[c,aJ];exact⟨e,d 1 (by omega) (by omega),d 2 (by omega) (by omega),d 3 (by omega) (by omega),a.1,a.2⟩
 ·rw[c,aC];intro b;exact a ⟨b.2.2.2.2.1,b.2.2.2.2.2⟩
theorem first_4 (s:ByteArray) (w:World) (hs:s.size<=9223372036854775807) (h0:0<s.size) (hb:240<=bp s 0∧bp s 0<245):
  Calls Tryz.prog 212 #[s] w λe w'=>e= .returned (firstV (rfL s.data.toList))∧w'=w:=by
 obtain⟨q,r,t⟩:=rf_4 s hb _ rfl;obtain⟨R,E⟩:∃R,R=rfL s.data.toList:=⟨_,rfl⟩;rw[<-E] at q r t ⊢;clear E;have g:=cF_le (bp s 0-240) (bp s) (by omega) (byteN_lt s);have k:=hb;rw[fj s 0 h0] at k;have Z:=s[0].toNat_lt;have t1:¬(s[0].toNat:Int)<128:=by omega
 have u0:(194:Int)<=(s[0].toNat:Int):=by omega
 have u1:¬(s[0].toNat:Int)<224:=by omega
 have u2:(224:Int)<=(s[0].toNat:Int):=by omega
 have u3:¬(s[0].toNat:Int)<240:=by omega
 have u4:(240:Int)<=(s[0].toNat:Int):=by omega
 have u5:(s[0].toNat:Int)<245:=by omega
 have F:Hid (∀m,1<=m->m<4->¬cN (bp s m)->R=none):=r;have x:Hid (4<=s.size->(∀m,1<=m->m<4->cN (bp s m))->((λX=>(65536<=X∧X<=1114111)) (cF (bp s 0-240) (bp s) 3)->R=some (cF (bp s 0-240) (bp s) 3,4))∧(¬(λX=>(65536<=X∧X<=1114111)) (cF (bp s 0-240) (bp s) 3)->R=none)):=t;have y:=hid g;by_cases G:s.size<4
 ·obtain rfl:=q G;have Q:(s.size:Int)<4:=by omega
  show Calls _ _ _ _ λe w'=>e= .returned (.tuple #[(0:Int),(0:Int),false])∧w'=w;clear q r t g hb k;go_enter iJ,gZ;go_wp2;go_ret3;exact⟨rfl,rfl⟩
 have Q:¬(s.size:Int)<4:=by omega
 have z:(s[0].toNat:Int)-240=((cF (bp s 0-240) (bp s) 0:Nat):Int):=by
  show _=((bp s 0-240:Nat):Int);rw[fj s 0 h0];omega
 have A:=hid z;have S:=hid hb;clear q r t g hb k z;obtain⟨a,u⟩:∃a,a=bp s 0-240:=⟨_,rfl⟩;rw[<-u] at A x y;have H:=hid u;clear u;go_enter iJ,gZ;go_wp2;go_loop [7,8] (λc i=>∃j C:Nat,j<4∧i= .int .i64 (j+1:Nat)∧c= .int .i64 C∧Hid (C=cF a (bp s) j)∧Hid (∀m,1<=m->m<=j->cN (bp s m))) (λ_ i=>4-(RowKit.intOf i).toNat)
 case atStart=>exact⟨0,cF a (bp s) 0,by omega,rfl,by rw[A.out],rfl,λm l I=>absurd l (by omega)⟩
 case round=>
  obtain⟨j,C,hj,rfl,rfl,v,n⟩:=hrel;have W:C<=9000000:=by rw[v.out];exact y.out j (by omega)
  by_cases J:j+1<4
  ·have T:j+1<s.size:=by omega
   have d0:=s[j+1].toNat_lt;have B:=fj s (j+1) T;have o:=hid B;clear B;by_cases d:cN (bp s (j+1))
   ·have b:=d;rw[o.out] at b;have K:¬(s[j+1].toNat:Int)<128:=by have:=b.1;omega
    have U:¬(192:Int)<=(s[j+1].toNat:Int):=by have:=b.2;omega
    have L:Hid (((C:Int)*64+(s[j+1].toNat:Int)-128)=((cF a (bp s) (j+1):Nat):Int)):=by
     show _=((cF a (bp s) j*64+(bp s (j+1)-128):Nat):Int);rw[<-v.out,o.out];omega
    have M:Hid (∀m,1<=m->m<=j+1->cN (bp s m)):=λm l I=>by
     rcases cj j m with h|h
     ·obtain rfl:m=j+1:=by omega
      exact d
     ·exact n.out m l h
    clear d b;go_wp2;go_round
    case rel=>exact⟨j+1,cF a (bp s) (j+1),by omega,by go_num,by rw[<-L.out],rfl,M⟩
    case measure=>simp[RowKit.intOf];omega
   ·obtain rfl:R=none:=F.out (j+1) (by omega) J d;have b:¬(128<=s[j+1].toNat∧s[j+1].toNat<192):=by rw[<-o.out];exact d
    clear d;by_cases N:s[j+1].toNat<128
    ·have K:(s[j+1].toNat:Int)<128:=by omega
     clear b N;go_wp2;go_ret3;exact⟨rfl,rfl⟩
    ·have K:¬(s[j+1].toNat:Int)<128:=by omega
     have U:(192:Int)<=(s[j+1].toNat:Int):=by omega
     clear b N;go_wp2;go_ret3;exact⟨rfl,rfl⟩
  ·obtain rfl:j=3:=by omega
   have f:=x.out (by omega) (λm l I=>n.out m l (by omega));rw[<-v.out] at f
   try simp only at f
   have Y:C<=2097151:=by
    rw[v.out];have u:a<=4:=by rw[H.out];have:=S.out;omega
    have q1:=(n.out 1 (by omega) (by omega)).2;have q2:=(n.out 2 (by omega) (by omega)).2;have q3:=(n.out 3 (by omega) (by omega)).2;rw[cF3];omega
   obtain⟨f,p⟩:=f;by_cases D:C<65536
   ·obtain rfl:R=none:=p (by omega);have O:(C:Int)<65536:=by omega
    clear f p D;go_wp2;go_ret3;exact⟨rfl,rfl⟩
   by_cases P:C<=1114111
   ·obtain rfl:R=some (C,4):=f (by omega);have O:¬(C:Int)<65536:=by omega
    have V:¬(1114111:Int)<(C:Int):=by omega
    have v2:(55296:Int)<=(C:Int):=by omega
    have v3:¬(C:Int)<57344:=by omega
    clear f p D P;go_wp2;go_ret3;exact⟨rfl,rfl⟩
   ·obtain rfl:R=none:=p (by omega);have O:¬(C:Int)<65536:=by omega
    have V:(1114111:Int)<(C:Int):=by omega
    clear f p D P;go_wp2;go_ret3;exact⟨rfl,rfl⟩
end
section
open Go.RowKit Go.Lib Go.Sort
theorem first_any (s:ByteArray) (w:World) (hs:s.size<=9223372036854775807) (h0:0<s.size):
  Calls Tryz.prog 212 #[s] w λe w'=>e= .returned (firstV (rfL s.data.toList))∧w'=w:=by
 have g:=byteN_lt s 0;by_cases a:bp s 0<128
 ·exact first_low s w hs h0 a
 by_cases b:bp s 0<194
 ·exact first_bad s w hs h0 (.inl ⟨by omega,b⟩)
 by_cases c:bp s 0<224
 ·exact first_2 s w hs h0 ⟨by omega,c⟩
 by_cases d:bp s 0<240
 ·exact first_3 s w hs h0 ⟨by omega,d⟩
 by_cases f:bp s 0<245
 ·exact first_4 s w hs h0 ⟨by omega,f⟩
 ·exact first_bad s w hs h0 (.inr (by omega))
theorem infoStr:(Tryz.prog.info? 9).map (λi=>(i.zero,i.size,i.bytes))=some (some (.string ⟨#[]⟩),1,16):=by kernel_rfl
theorem cell1 (W:World) (u:Value) (e:TypeId) (j:Nat) (v:Value) (h:[u][j]? =some v):(W.alloc (.cells #[u] e)).cell? ((⟨W.heap.size,0,none⟩:Addr).add j)=some v:=by
 have a:=am W (.cells #[u] e);cases j with
 |zero=>
  have b:(⟨W.heap.size,0,none⟩:Addr).add 0=⟨W.heap.size,0,none⟩:=rfl;rw[b,aD _ _ _ _ _ _ a];simpa using h
 |succ j=>simp at h
def cntAdd (m:Nat):Option Nat->Option Nat
 |none=>none
 |some q=>some (q+m)
theorem cntAdd_step {l:List UInt8} (hl:l≠[]) (m:Nat) {c k:Nat} (h:rfL l=some (c,k)):cntAdd m (cnt l)=cntAdd (m+1) (cnt (l.drop k)):=by
 rw[cnt_step hl,h];simp only;cases cnt (l.drop k) with
 |none=>rfl
 |some q=>show some (q+1+m)=some (q+(m+1));congr 1;omega
theorem cntAdd_none {l:List UInt8} (hl:l≠[]) (m:Nat) (h:rfL l=none):cntAdd m (cnt l)=none:=by
 rw[cnt_step hl,h];rfl
theorem drop_ext (s:ByteArray) (k:Nat):(s.extract k s.size).data.toList=s.data.toList.drop k:=by
 rw[gT,iw,fS];exact di (by simp)
def SpQ (r:Option Nat) (w:World) (e:Ending) (w':World):Prop:=match r with
 |none=>e= .returned (.tuple #[.slice none 0 0,(60:Int)])∧Below w.heap.size w w'
 |some m=>∃A c,e= .returned (.tuple #[.slice A m c,(0:Int)])∧Below w.heap.size w w'
theorem split6_any (s:ByteArray) (w:World) (hs:s.size<=1000000):
  Calls Tryz.prog 193 #[s] w λe w'=>SpQ (cnt s.data.toList) w e w':=by
 obtain⟨R,z⟩:∃R,R=cnt s.data.toList:=⟨_,rfl⟩;rw[<-z];have O:=hid z;clear z;obtain⟨P,Q,F,G,H⟩:=bD infoStr;go_enter Tryz.func193,Tryz.ntmps193;go_wp2;go_loopw [0,4] (λt v wr=>∃T:ByteArray,∃m:Nat,∃I:List Value,t= .string T∧T.size+m<=s.size∧wr.ownsRow w.heap.size 9 1 v m I∧Below w.heap.size w wr∧Hid (R=cntAdd m (cnt T.data.toList))) (λt _ _=>match t with| .string T=>T.size|_=>0)
 case atStart=>exact⟨s,0,[],rfl,by omega,aF _ _ _ _,ag _ _,by
  show R=_;rw[O.out]
  cases cnt s.data.toList<;>rfl⟩
 case round=>
  obtain⟨T,m,I,rfl,X,n,o,B⟩:=hrel;have b:T.data.toList.length=T.size:=by simp
  by_cases S:0<T.size
  ·have d:T.data.toList≠[]:=λe=>by rw[e] at b;simp at b;omega
   have j:=first_any T wr (by omega) S;cases f:rfL T.data.toList with
   |none=>
    rw[f] at j;obtain rfl:R=none:=by rw[B.out,cntAdd_none d m f]
    have C:Hid (Calls Tryz.prog 212 #[T] wr λe w'=>e= .returned (.tuple #[(0:Int),(0:Int),false])∧w'=wr):=j;clear j f d b n;go_wp2_with fail;refine C.out.mono ?_;rintro e J ⟨rfl,rfl⟩;go_wp2;go_ret2;exact⟨rfl,o⟩
   | some p=>
    obtain⟨c,k⟩:=p;rw[f] at j;have K:=je d f;rw[b] at K;have L:Hid (R=cntAdd (m+1) (cnt (T.extract k T.size).data.toList)):=by
     show R=_;rw[B.out,cntAdd_step d m f,drop_ext]
    have C:Hid (Calls Tryz.prog 212 #[T] wr λe w'=>e= .returned (.tuple #[.int .i64 (c:Nat),.int .i64 (k:Nat),true])∧w'=wr):=j;obtain⟨U,V⟩:=K;have Y:(0:Int)<=(k:Int):=by omega
    have Z:(k:Int)<=(T.size:Int):=by omega
    have W:=o.size;have x:(T.extract k T.size).size=T.size-k:=by rw[cI];omega
    have y:=hid x;clear j f d b x;go_wp2_with fail;refine C.out.mono ?_;rintro e J ⟨rfl,rfl⟩;go_wp2_with (at_builtin;refine bu _ rfl _ _ 60 rfl w.heap.size 9 P (.string ⟨#[]⟩) 1 16 Tryz.underlying60 Q F G H rfl (by decide) _ _ _ rfl (by exact n.alloc _) ⟨J.heap.size,0,none⟩ 1 1 [.string (T.extract 0 k)] rfl rfl (by exact cell1 _ _ _) (λu M=>by simp at M;subst M;rfl) (by unfold maxLen;omega) (by omega) (by simp;omega) ?_;intro v' w3 q r _);go_roundw
    case rel=>exact⟨_,m+1,_,rfl,by rw[y.out];omega,q,(o.alloc (by omega) _).grown r (by simp;omega) (λi h=>(n.lt i h).1),L⟩
    case measure=>show(T.extract k T.size).size<T.size;rw[y.out];omega
  ·have D:T.data.toList=[]:=by
    cases e:T.data.toList with
    |nil=>rfl
    |cons a l=>rw[e] at b;simp at b;omega
   obtain rfl:R=some m:=by rw[B.out,D,cnt_nil];show some (0+m)=_;rw[bN]
   have N:T.size=0:=by omega
   obtain rfl:T=⟨#[]⟩:=gm.1 D;obtain⟨A,E,rfl⟩:∃A E,u4=Value.slice A m E:=by
    rcases n.2 with⟨rfl,rfl⟩|⟨g,cap,cur,rfl,_⟩
    ·exact⟨_,_,rfl⟩
    ·exact⟨_,_,rfl⟩
   clear n b D N;go_wp2;go_ret2;exact⟨A,E,rfl,o⟩
theorem reflen_ok (s:ByteArray) (m:Nat) (w:World) (hs:s.size<=1000000) (h:cnt s.data.toList=some m):
  Calls Tryz.prog 163 #[s] w λe w'=>e= .returned (.tuple #[.int .i64 m,(0:Int)])∧Below w.heap.size w w':=by
 have a:=split6_any s w hs;rw[h] at a;have b:=hid a;clear a h;go_enter Tryz.func163,Tryz.ntmps163;go_wp2_with fail;refine b.out.mono ?_;rintro e f ⟨A,c,rfl,d⟩;go_wp2;go_ret2;exact⟨rfl,d⟩
end
end
end Go.Proofs.YtkhmicndehlneaaGreatDoor
