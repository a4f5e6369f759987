/- Part 14 of the walks and plain laws that this claim uses, joined. Conditions: as each theorem states. -/
import Derived.Deep.Light
import Derived.Test.YtkhmicndehlneaaGreatDoorYhm
namespace Go.Proofs.YtkhmicndehlneaaGreatDoor
set_option maxRecDepth 100000
set_option maxHeartbeats 16000000
set_option linter.unusedVariables false
section
section
open Go.RowKit Go.Lib Go.Sort
theorem tl_eq {s:ByteArray}:s.toList=s.data.toList:=eS s
def signP (c:Nat):Prop:=(48<=c∧c<=57)∨(65<=c∧c<=90)∨(97<=c∧c<=122)∨c=46∨c=45∨c=95
theorem signB_iff (b:UInt8):signB b=true↔signP b.toNat:=by
 simp only[signB,signP,ch,ap,ak];omega
theorem all_get {s:ByteArray} {p:UInt8->Bool} (h:∀i (hi:i<s.size),p s[i]=true):s.data.toList.all p=true:=by
 rw[dJ];intro b hb;obtain⟨i,hi,e⟩:=dj.1 hb;have hi':i<s.size:=by simpa using hi
 have:=h i hi';rw[<-e];exact this
theorem all_not {s:ByteArray} {p:UInt8->Bool} {i:Nat} (hi:i<s.size) (h:p s[i]=false):s.data.toList.all p=false:=by
 cases e:s.data.toList.all p with
 |false=>rfl
 | true=>
  rw[dJ] at e
  have:=e s[i] (by
   refine dj.2 ⟨i,by simpa using hi,rfl⟩)
  rw[h] at this;cases this
theorem jI (s:ByteArray) (w:World) (hs:s.size<=9223372036854775807):
    Calls Tryz.prog 159 #[s] w λe w'=>e= .returned (.bool (ek s))∧w'=w:=by
  obtain⟨ans,ha⟩:∃v,v=ek s:=⟨_,rfl⟩;rw[<-ha];have HV:=hid ha;clear ha;by_cases h0:s.data.toList=[]
  · obtain rfl:ans=false:=by rw[HV.out];simp[ek,h0]
    obtain rfl:=gm.1 h0;go_enter Tryz.func159,Tryz.ntmps159;go_wp2;go_ret;exact⟨rfl,rfl⟩
  have t0:s.toList.isEmpty=false:=by
    rw[tl_eq];cases e:s.data.toList with
    |nil=>exact absurd e h0
    |cons a l=>rfl
  by_cases h1:s.size<=32
  · have t1 : ¬(32:Int)<(s.size:Int):=by omega
    by_cases h2:s.data.toList=[46]
    · obtain rfl:ans=false:=by rw[HV.out];simp[ek,h2]
      obtain rfl:s=⟨#[46]⟩:=fD (eH.1 h2);go_enter Tryz.func159,Tryz.ntmps159;go_wp2;go_ret;exact⟨rfl,rfl⟩
    have t2:(s.toList == [46])=false:=by rw[tl_eq];simp[h2]
    by_cases h3:s.data.toList=[46,46]
    · obtain rfl:ans=false:=by rw[HV.out];simp[ek,h3]
      obtain rfl:s=⟨#[46,46]⟩:=fD (eH.1 h3);go_enter Tryz.func159,Tryz.ntmps159;go_wp2;go_ret;exact⟨rfl,rfl⟩
    have t3:(s.toList == [46,46])=false:=by rw[tl_eq];simp[h3]
    have hv:ans=s.data.toList.all signB:=by
      rw[HV.out];simp only[ek];rw[aN (show s.data.toList≠[] from h0),aN h1,aN (show s.data.toList≠[46] from h2),aN (show s.data.toList≠[46,46] from h3)];simp only[aY]
    have HVV:=hid hv;clear hv h0 h1 h2 h3;go_enter Tryz.func159,Tryz.ntmps159;go_wp2;go_loop [3] (λi=>∃k:Nat,k<=s.size∧i= .int .i64 k∧Hid (∀i (hi:i<s.size),i<k->signB s[i]=true)) (λi=>s.size-(RowKit.intOf i).toNat)
    case atStart=>exact⟨0,by omega,rfl,λi _ hi=>absurd hi (by omega)⟩
    case round =>
      obtain⟨k,hk,rfl,HK⟩:=hrel;by_cases hlt:k<s.size
      · obtain ⟨c,hc⟩:∃c,c=s[k].toNat:=⟨_,rfl⟩;cases hsg:signB s[k] with
        | true =>
          have hp:=(signB_iff _).1 hsg;unfold signP at hp;have HK2:Hid (∀i (hi:i<s.size),i<k+1->signB s[i]=true):=λi hi hik=>by
            rcases cj i k with h|h
            · exact HK.out i hi h
            · obtain rfl:i=k:=by omega
              exact hsg
          clear hsg hc;go_wp2
          all_goals first
            |(exfalso;omega)
            |(exfalso;go_light;simp only[ij,Bool.not_eq_false',aU,ak,aV,ce,ne_eq] at *;omega)
            | (go_round
               case rel=>exact⟨k+1,by omega,by go_num,HK2⟩
               case measure=>simp[RowKit.intOf];omega)
        | false=>
          obtain rfl:ans=false:=by rw[HVV.out];exact all_not hlt hsg
          have hp:¬signP s[k].toNat:=by rw[<-signB_iff,hsg];decide
          unfold signP at hp;clear hsg hc;go_wp2
          all_goals first
            |(exfalso;omega)
            |(exfalso;go_light;simp only[ij,Bool.not_eq_false',aU,ak,aV,ce,ne_eq] at *;omega)
            |(go_ret;exact⟨rfl,rfl⟩)
      · obtain rfl:k=s.size:=by omega
        obtain rfl:ans=true:=by rw[HVV.out];exact all_get (λi hi=>HK.out i hi hi)
        go_wp2;go_ret;exact⟨rfl,rfl⟩
  · have t1:(32:Int)<(s.size:Int):=by omega
    obtain rfl:ans=false:=by rw[HV.out];simp[ek,h1]
    go_enter Tryz.func159,Tryz.ntmps159;go_wp2;go_ret;exact⟨rfl,rfl⟩
end
section
open Go.RowKit Go.Lib Go.Sort
set_option linter.unusedSimpArgs false
theorem getD_get (s:ByteArray) (i:Nat) (h:i<s.size):s.data.toList.getD i 0=s[i]:=by
 rw[ae,an (by simpa using h)];rfl
def firstV:Option (Nat×Nat)->Value
 |none=> .tuple #[(0:Int),(0:Int),false]
 |some (c,k)=> .tuple #[.int .i64 c,.int .i64 k,true]
def bp (s:ByteArray) (i:Nat):Nat:=(s.data.toList.getD i 0).toNat
theorem fj (s:ByteArray) (i:Nat) (h:i<s.size):bp s i=s[i].toNat:=by unfold bp;rw[getD_get s i h]
theorem byteN_lt (s:ByteArray) (i:Nat):bp s i<256:=fJ _
def cF (a:Nat) (b:Nat->Nat):Nat->Nat
 |0=>a
 |j+1=>cF a b j*64+(b (j+1)-128)
theorem cF1 (a:Nat) (b:Nat->Nat):cF a b 1=a*64+(b 1-128):=rfl
theorem cF2 (a:Nat) (b:Nat->Nat):cF a b 2=(a*64+(b 1-128))*64+(b 2-128):=rfl
theorem cF3 (a:Nat) (b:Nat->Nat):cF a b 3=((a*64+(b 1-128))*64+(b 2-128))*64+(b 3-128):=rfl
theorem cF_le (a:Nat) (b:Nat->Nat) (ha:a<32) (hb:∀i,b i<256) (j:Nat) (hj:j<=3):cF a b j<=9000000:=by
 have h1:=hb 1;have h2:=hb 2;have h3:=hb 3;obtain rfl|rfl|rfl|rfl:j=0∨j=1∨j=2∨j=3:=by omega
 ·have e:cF a b 0=a:=rfl;rw[e];omega
 ·rw[cF1];omega
 ·rw[cF2];omega
 ·rw[cF3];omega
theorem rfL_byte (s:ByteArray):rfL s.data.toList=rfN s.size (bp s 0) (bp s 1) (bp s 2) (bp s 3):=by
 unfold rfL bp;rw[show s.data.toList.length=s.size by simp]
theorem first_low (s:ByteArray) (w:World) (hs:s.size<=9223372036854775807) (h0:0<s.size) (hb:bp s 0<128):
  Calls Tryz.prog 212 #[s] w λe w'=>e= .returned (firstV (rfL s.data.toList))∧w'=w:=by
 have hr:rfL s.data.toList=some (s[0].toNat,1):=by
  rw[rfL_byte,<-fj s 0 h0];unfold rfN;rw[aJ hb]
 rw[hr];rw[fj s 0 h0] at hb;show Calls _ _ _ _ λe w'=>e= .returned (.tuple #[.int .i64 (s[0].toNat:Nat),.int .i64 (1:Nat),true])∧w'=w;have t0:=s[0].toNat_lt;have t1:(s[0].toNat:Int)<128:=by omega
 clear hr;go_enter iJ,gZ;go_wp2;go_ret3;exact⟨rfl,rfl⟩
theorem first_bad (s:ByteArray) (w:World) (hs:s.size<=9223372036854775807) (h0:0<s.size) (hb:(128<=bp s 0∧bp s 0<194)∨245<=bp s 0):
  Calls Tryz.prog 212 #[s] w λe w'=>e= .returned (firstV (rfL s.data.toList))∧w'=w:=by
 have hr:rfL s.data.toList=none:=by
  rw[rfL_byte];unfold rfN;rw[aC (by omega),aC (by omega),aC (by omega),aC (by omega)]
 rw[hr];rw[fj s 0 h0] at hb;show Calls _ _ _ _ λe w'=>e= .returned (.tuple #[(0:Int),(0:Int),false])∧w'=w;have t0:=s[0].toNat_lt;clear hr;rcases hb with hb|hb
 ·have t1:¬(s[0].toNat:Int)<128:=by omega
  have t2:¬(194:Int)<=(s[0].toNat:Int):=by omega
  have t3:¬(224:Int)<=(s[0].toNat:Int):=by omega
  have t4:¬(240:Int)<=(s[0].toNat:Int):=by omega
  clear hb;go_enter iJ,gZ;go_wp2;go_ret3;exact⟨rfl,rfl⟩
 ·have t1:¬(s[0].toNat:Int)<128:=by omega
  have t2:(194:Int)<=(s[0].toNat:Int):=by omega
  have t2':¬(s[0].toNat:Int)<224:=by omega
  have t3:(224:Int)<=(s[0].toNat:Int):=by omega
  have t3':¬(s[0].toNat:Int)<240:=by omega
  have t4:(240:Int)<=(s[0].toNat:Int):=by omega
  have t4':¬(s[0].toNat:Int)<245:=by omega
  clear hb;go_enter iJ,gZ;go_wp2;go_ret3;exact⟨rfl,rfl⟩
theorem rf_2 (s:ByteArray) (hb:194<=bp s 0∧bp s 0<224) (X:Nat) (hX:X=cF (bp s 0-192) (bp s) 1):
  (s.size<2->rfL s.data.toList=none)∧(∀m,1<=m->m<2->¬cN (bp s m)->rfL s.data.toList=none)∧
  (2<=s.size->(∀m,1<=m->m<2->cN (bp s m))->(True->rfL s.data.toList=some (X,2))∧(¬True->rfL s.data.toList=none)):=by
 have hr:rfL s.data.toList=(if 2<=s.size∧cN (bp s 1) then some (X,2) else none):=by
  rw[rfL_byte,hX];unfold rfN;rw[aC (by omega),aJ hb];rfl
 refine⟨λh=>by rw[hr,aC (by omega)],λm h1 h2 h3=> ?_,λh1 h2=>⟨λh3=> ?_,λh3=> ?_⟩⟩
 ·rw[hr,aC];intro h4;obtain rfl:m=1:=by omega
  all_goals first|exact h3 h4.2.1|exact h3 h4.2.2.1|exact h3 h4.2.2.2.1|exact h3 h4.2
 ·rw[hr,aJ];exact⟨h1,h2 1 (by omega) (by omega)⟩
 ·rw[hr,aC];intro h4;exact h3 trivial
theorem first_2 (s:ByteArray) (w:World) (hs:s.size<=9223372036854775807) (h0:0<s.size) (hb:194<=bp s 0∧bp s 0<224):
  Calls Tryz.prog 212 #[s] w λe w'=>e= .returned (firstV (rfL s.data.toList))∧w'=w:=by
 obtain⟨r1,r2,r3⟩:=rf_2 s hb _ rfl;obtain⟨R,hR⟩:∃R,R=rfL s.data.toList:=⟨_,rfl⟩;rw[<-hR] at r1 r2 r3 ⊢;clear hR;have hcl:=cF_le (bp s 0-192) (bp s) (by omega) (byteN_lt s);have hb0:=hb;rw[fj s 0 h0] at hb0;have t0:=s[0].toNat_lt;have t1:¬(s[0].toNat:Int)<128:=by omega
 have u0:(194:Int)<=(s[0].toNat:Int):=by omega
 have u1:(s[0].toNat:Int)<224:=by omega
 have HR2:Hid (∀m,1<=m->m<2->¬cN (bp s m)->R=none):=r2;have HR3:Hid (2<=s.size->(∀m,1<=m->m<2->cN (bp s m))->((λX=>True) (cF (bp s 0-192) (bp s) 1)->R=some (cF (bp s 0-192) (bp s) 1,2))∧(¬(λX=>True) (cF (bp s 0-192) (bp s) 1)->R=none)):=r3;have HCL:=hid hcl;by_cases hsz:s.size<2
 ·obtain rfl:=r1 hsz;have t5:(s.size:Int)<2:=by omega
  show Calls _ _ _ _ λe w'=>e= .returned (.tuple #[(0:Int),(0:Int),false])∧w'=w;clear r1 r2 r3 hcl hb hb0;go_enter iJ,gZ;go_wp2;go_ret3;exact⟨rfl,rfl⟩
 have t5:¬(s.size:Int)<2:=by omega
 have hc0:(s[0].toNat:Int)-192=((cF (bp s 0-192) (bp s) 0:Nat):Int):=by
  show _=((bp s 0-192:Nat):Int);rw[fj s 0 h0];omega
 have HC0:=hid hc0;have HB:=hid hb;clear r1 r2 r3 hcl hb hb0 hc0;obtain⟨a,ha⟩:∃a,a=bp s 0-192:=⟨_,rfl⟩;rw[<-ha] at HC0 HR3 HCL;have HA0:=hid ha;clear ha;go_enter iJ,gZ;go_wp2;go_loop [7,8] (λc i=>∃j C:Nat,j<2∧i= .int .i64 (j+1:Nat)∧c= .int .i64 C∧Hid (C=cF a (bp s) j)∧Hid (∀m,1<=m->m<=j->cN (bp s m))) (λ_ i=>2-(RowKit.intOf i).toNat)
 case atStart=>exact⟨0,cF a (bp s) 0,by omega,rfl,by rw[HC0.out],rfl,λm h1 h2=>absurd h1 (by omega)⟩
 case round=>
  obtain⟨j,C,hj,rfl,rfl,HC,HM⟩:=hrel;have hCl:C<=9000000:=by rw[HC.out];exact HCL.out j (by omega)
  by_cases hlt:j+1<2
  ·have hd:j+1<s.size:=by omega
   have d0:=s[j+1].toNat_lt;have hbg:=fj s (j+1) hd;have HBG:=hid hbg;clear hbg;by_cases hcn:cN (bp s (j+1))
   ·have hcn2:=hcn;rw[HBG.out] at hcn2;have d1:¬(s[j+1].toNat:Int)<128:=by have:=hcn2.1;omega
    have d2:¬(192:Int)<=(s[j+1].toNat:Int):=by have:=hcn2.2;omega
    have HC2:Hid (((C:Int)*64+(s[j+1].toNat:Int)-128)=((cF a (bp s) (j+1):Nat):Int)):=by
     show _=((cF a (bp s) j*64+(bp s (j+1)-128):Nat):Int);rw[<-HC.out,HBG.out];omega
    have HM2:Hid (∀m,1<=m->m<=j+1->cN (bp s m)):=λm h1 h2=>by
     rcases cj j m with h|h
     ·obtain rfl:m=j+1:=by omega
      exact hcn
     ·exact HM.out m h1 h
    clear hcn hcn2;go_wp2;go_round
    case rel=>exact⟨j+1,cF a (bp s) (j+1),by omega,by go_num,by rw[<-HC2.out],rfl,HM2⟩
    case measure=>simp[RowKit.intOf];omega
   ·obtain rfl:R=none:=HR2.out (j+1) (by omega) hlt hcn;have hcn2:¬(128<=s[j+1].toNat∧s[j+1].toNat<192):=by rw[<-HBG.out];exact hcn
    clear hcn;by_cases hx:s[j+1].toNat<128
    ·have d1:(s[j+1].toNat:Int)<128:=by omega
     clear hcn2 hx;go_wp2;go_ret3;exact⟨rfl,rfl⟩
    ·have d1:¬(s[j+1].toNat:Int)<128:=by omega
     have d2:(192:Int)<=(s[j+1].toNat:Int):=by omega
     clear hcn2 hx;go_wp2;go_ret3;exact⟨rfl,rfl⟩
  ·obtain rfl:j=1:=by omega
   have h3:=HR3.out (by omega) (λm h1 h2=>HM.out m h1 (by omega));rw[<-HC.out] at h3
   try simp only at h3
   have hCb:C<=2047:=by
    rw[HC.out];have ha:a<=31:=by rw[HA0.out];have:=HB.out;omega
    have q1:=(HM.out 1 (by omega) (by omega)).2;rw[cF1];omega
   obtain⟨h3,h4⟩:=h3;obtain rfl:R=some (C,2):=h3 trivial;have v0:¬(1114111:Int)<(C:Int):=by omega
   have v1:¬(55296:Int)<=(C:Int):=by omega
   clear h3 h4;go_wp2;go_ret3;exact⟨rfl,rfl⟩
theorem rf_3 (s:ByteArray) (hb:224<=bp s 0∧bp s 0<240) (X:Nat) (hX:X=cF (bp s 0-224) (bp s) 2):
  (s.size<3->rfL s.data.toList=none)∧(∀m,1<=m->m<3->¬cN (bp s m)->rfL s.data.toList=none)∧
  (3<=s.size->(∀m,1<=m->m<3->cN (bp s m))->((2048<=X∧(X<55296∨57344<=X))->rfL s.data.toList=some (X,3))∧(¬(2048<=X∧(X<55296∨57344<=X))->rfL s.data.toList=none)):=by
 have hr:rfL s.data.toList=(if 3<=s.size∧cN (bp s 1)∧cN (bp s 2)∧2048<=X∧(X<55296∨57344<=X) then some (X,3) else none):=by
  rw[rfL_byte,hX];unfold rfN;rw[aC (by omega),aC (by omega),aJ hb];rfl
 refine⟨λh=>by rw[hr,aC (by omega)],λm h1 h2 h3=> ?_,λh1 h2=>⟨λh3=> ?_,λh3=> ?_⟩⟩
 ·rw[hr,aC];intro h4;obtain rfl|rfl:m=1∨m=2:=by omega
  all_goals first|exact h3 h4.2.1|exact h3 h4.2.2.1|exact h3 h4.2.2.2.1|exact h3 h4.2
 ·rw[hr,aJ];exact⟨h1,h2 1 (by omega) (by omega),h2 2 (by omega) (by omega),h3.1,h3.2⟩
 ·rw[hr,aC];intro h4;exact h3 ⟨h4.2.2.2.1,h4.2.2.2.2⟩
theorem first_3 (s:ByteArray) (w:World) (hs:s.size<=9223372036854775807) (h0:0<s.size) (hb:224<=bp s 0∧bp s 0<240):
  Calls Tryz.prog 212 #[s] w λe w'=>e= .returned (firstV (rfL s.data.toList))∧w'=w:=by
 obtain⟨r1,r2,r3⟩:=rf_3 s hb _ rfl;obtain⟨R,hR⟩:∃R,R=rfL s.data.toList:=⟨_,rfl⟩;rw[<-hR] at r1 r2 r3 ⊢;clear hR;have hcl:=cF_le (bp s 0-224) (bp s) (by omega) (byteN_lt s);have hb0:=hb;rw[fj s 0 h0] at hb0;have t0:=s[0].toNat_lt;have t1:¬(s[0].toNat:Int)<128:=by omega
 have u0:(194:Int)<=(s[0].toNat:Int):=by omega
 have u1:¬(s[0].toNat:Int)<224:=by omega
 have u2:(224:Int)<=(s[0].toNat:Int):=by omega
 have u3:(s[0].toNat:Int)<240:=by omega
 have HR2:Hid (∀m,1<=m->m<3->¬cN (bp s m)->R=none):=r2;have HR3:Hid (3<=s.size->(∀m,1<=m->m<3->cN (bp s m))->((λX=>(2048<=X∧(X<55296∨57344<=X))) (cF (bp s 0-224) (bp s) 2)->R=some (cF (bp s 0-224) (bp s) 2,3))∧(¬(λX=>(2048<=X∧(X<55296∨57344<=X))) (cF (bp s 0-224) (bp s) 2)->R=none)):=r3;have HCL:=hid hcl;by_cases hsz:s.size<3
 ·obtain rfl:=r1 hsz;have t5:(s.size:Int)<3:=by omega
  show Calls _ _ _ _ λe w'=>e= .returned (.tuple #[(0:Int),(0:Int),false])∧w'=w;clear r1 r2 r3 hcl hb hb0;go_enter iJ,gZ;go_wp2;go_ret3;exact⟨rfl,rfl⟩
 have t5:¬(s.size:Int)<3:=by omega
 have hc0:(s[0].toNat:Int)-224=((cF (bp s 0-224) (bp s) 0:Nat):Int):=by
  show _=((bp s 0-224:Nat):Int);rw[fj s 0 h0];omega
 have HC0:=hid hc0;have HB:=hid hb;clear r1 r2 r3 hcl hb hb0 hc0;obtain⟨a,ha⟩:∃a,a=bp s 0-224:=⟨_,rfl⟩;rw[<-ha] at HC0 HR3 HCL;have HA0:=hid ha;clear ha;go_enter iJ,gZ;go_wp2;go_loop [7,8] (λc i=>∃j C:Nat,j<3∧i= .int .i64 (j+1:Nat)∧c= .int .i64 C∧Hid (C=cF a (bp s) j)∧Hid (∀m,1<=m->m<=j->cN (bp s m))) (λ_ i=>3-(RowKit.intOf i).toNat)
 case atStart=>exact⟨0,cF a (bp s) 0,by omega,rfl,by rw[HC0.out],rfl,λm h1 h2=>absurd h1 (by omega)⟩
 case round=>
  obtain⟨j,C,hj,rfl,rfl,HC,HM⟩:=hrel;have hCl:C<=9000000:=by rw[HC.out];exact HCL.out j (by omega)
  by_cases hlt:j+1<3
  ·have hd:j+1<s.size:=by omega
   have d0:=s[j+1].toNat_lt;have hbg:=fj s (j+1) hd;have HBG:=hid hbg;clear hbg;by_cases hcn:cN (bp s (j+1))
   ·have hcn2:=hcn;rw[HBG.out] at hcn2;have d1:¬(s[j+1].toNat:Int)<128:=by have:=hcn2.1;omega
    have d2:¬(192:Int)<=(s[j+1].toNat:Int):=by have:=hcn2.2;omega
    have HC2:Hid (((C:Int)*64+(s[j+1].toNat:Int)-128)=((cF a (bp s) (j+1):Nat):Int)):=by
     show _=((cF a (bp s) j*64+(bp s (j+1)-128):Nat):Int);rw[<-HC.out,HBG.out];omega
    have HM2:Hid (∀m,1<=m->m<=j+1->cN (bp s m)):=λm h1 h2=>by
     rcases cj j m with h|h
     ·obtain rfl:m=j+1:=by omega
      exact hcn
     ·exact HM.out m h1 h
    clear hcn hcn2;go_wp2;go_round
    case rel=>exact⟨j+1,cF a (bp s) (j+1),by omega,by go_num,by rw[<-HC2.out],rfl,HM2⟩
    case measure=>simp[RowKit.intOf];omega
   ·obtain rfl:R=none:=HR2.out (j+1) (by omega) hlt hcn;have hcn2:¬(128<=s[j+1].toNat∧s[j+1].toNat<192):=by rw[<-HBG.out];exact hcn
    clear hcn;by_cases hx:s[j+1].toNat<128
    ·have d1:(s[j+1].toNat:Int)<128:=by omega
     clear hcn2 hx;go_wp2;go_ret3;exact⟨rfl,rfl⟩
    ·have d1:¬(s[j+1].toNat:Int)<128:=by omega
     have d2:(192:Int)<=(s[j+1].toNat:Int):=by omega
     clear hcn2 hx;go_wp2;go_ret3;exact⟨rfl,rfl⟩
  ·obtain rfl:j=2:=by omega
   have h3:=HR3.out (by omega) (λm h1 h2=>HM.out m h1 (by omega));rw[<-HC.out] at h3
   try simp only at h3
   have hCb:C<=65535:=by
    rw[HC.out];have ha:a<=15:=by rw[HA0.out];have:=HB.out;omega
    have q1:=(HM.out 1 (by omega) (by omega)).2;have q2:=(HM.out 2 (by omega) (by omega)).2;rw[cF2];omega
   obtain⟨h3,h4⟩:=h3;by_cases e1:C<2048
   ·obtain rfl:R=none:=h4 (by omega);have v0:(C:Int)<2048:=by omega
    clear h3 h4 e1;go_wp2;go_ret3;exact⟨rfl,rfl⟩
   by_cases e2:C<55296
   ·obtain rfl:R=some (C,3):=h3 (by omega);have v0:¬(C:Int)<2048:=by omega
    have v1:¬(1114111:Int)<(C:Int):=by omega
    have v2:¬(55296:Int)<=(C:Int):=by omega
    clear h3 h4 e1 e2;go_wp2;go_ret3;exact⟨rfl,rfl⟩
   by_cases e3:C<57344
   ·obtain rfl:R=none:=h4 (by omega);have v0:¬(C:Int)<2048:=by omega
    have v1:¬(1114111:Int)<(C:Int):=by omega
    have v2:(55296:Int)<=(C:Int):=by omega
    have v3:(C:Int)<57344:=by omega
    clear h3 h4 e1 e2 e3;go_wp2;go_ret3;exact⟨rfl,rfl⟩
   ·obtain rfl:R=some (C,3):=h3 (by omega);have v0:¬(C:Int)<2048:=by omega
    have v1:¬(1114111:Int)<(C:Int):=by omega
    have v2:(55296:Int)<=(C:Int):=by omega
    have v3:¬(C:Int)<57344:=by omega
    clear h3 h4 e1 e2 e3;go_wp2;go_ret3;exact⟨rfl,rfl⟩
theorem rf_4 (s:ByteArray) (hb:240<=bp s 0∧bp s 0<245) (X:Nat) (hX:X=cF (bp s 0-240) (bp s) 3):
  (s.size<4->rfL s.data.toList=none)∧(∀m,1<=m->m<4->¬cN (bp s m)->rfL s.data.toList=none)∧
  (4<=s.size->(∀m,1<=m->m<4->cN (bp s m))->((65536<=X∧X<=1114111)->rfL s.data.toList=some (X,4))∧(¬(65536<=X∧X<=1114111)->rfL s.data.toList=none)):=by
 have hr:rfL s.data.toList=(if 4<=s.size∧cN (bp s 1)∧cN (bp s 2)∧cN (bp s 3)∧65536<=X∧X<=1114111 then some (X,4) else none):=by
  rw[rfL_byte,hX];unfold rfN;rw[aC (by omega),aC (by omega),aC (by omega),aJ hb];rfl
 refine⟨λh=>by rw[hr,aC (by omega)],λm h1 h2 h3=> ?_,λh1 h2=>⟨λh3=> ?_,λh3=> ?_⟩⟩
 ·rw[hr,aC];intro h4;obtain rfl|rfl|rfl:m=1∨m=2∨m=3:=by omega
  all_goals first|exact h3 h4.2.1|exact h3 h4.2.2.1|exact h3 h4.2.2.2.1|exact h3 h4.2
 ·rw[hr,aJ];exact⟨h1,h2 1 (by omega) (by omega),h2 2 (by omega) (by omega),h2 3 (by omega) (by omega),h3.1,h3.2⟩
 ·rw[hr,aC];intro h4;exact h3 ⟨h4.2.2.2.2.1,h4.2.2.2.2.2⟩
theorem first_4 (s:ByteArray) (w:World) (hs:s.size<=9223372036854775807) (h0:0<s.size) (hb:240<=bp s 0∧bp s 0<245):
  Calls Tryz.prog 212 #[s] w λe w'=>e= .returned (firstV (rfL s.data.toList))∧w'=w:=by
 obtain⟨r1,r2,r3⟩:=rf_4 s hb _ rfl;obtain⟨R,hR⟩:∃R,R=rfL s.data.toList:=⟨_,rfl⟩;rw[<-hR] at r1 r2 r3 ⊢;clear hR;have hcl:=cF_le (bp s 0-240) (bp s) (by omega) (byteN_lt s);have hb0:=hb;rw[fj s 0 h0] at hb0;have t0:=s[0].toNat_lt;have t1:¬(s[0].toNat:Int)<128:=by omega
 have u0:(194:Int)<=(s[0].toNat:Int):=by omega
 have u1:¬(s[0].toNat:Int)<224:=by omega
 have u2:(224:Int)<=(s[0].toNat:Int):=by omega
 have u3:¬(s[0].toNat:Int)<240:=by omega
 have u4:(240:Int)<=(s[0].toNat:Int):=by omega
 have u5:(s[0].toNat:Int)<245:=by omega
 have HR2:Hid (∀m,1<=m->m<4->¬cN (bp s m)->R=none):=r2;have HR3:Hid (4<=s.size->(∀m,1<=m->m<4->cN (bp s m))->((λX=>(65536<=X∧X<=1114111)) (cF (bp s 0-240) (bp s) 3)->R=some (cF (bp s 0-240) (bp s) 3,4))∧(¬(λX=>(65536<=X∧X<=1114111)) (cF (bp s 0-240) (bp s) 3)->R=none)):=r3;have HCL:=hid hcl;by_cases hsz:s.size<4
 ·obtain rfl:=r1 hsz;have t5:(s.size:Int)<4:=by omega
  show Calls _ _ _ _ λe w'=>e= .returned (.tuple #[(0:Int),(0:Int),false])∧w'=w;clear r1 r2 r3 hcl hb hb0;go_enter iJ,gZ;go_wp2;go_ret3;exact⟨rfl,rfl⟩
 have t5:¬(s.size:Int)<4:=by omega
 have hc0:(s[0].toNat:Int)-240=((cF (bp s 0-240) (bp s) 0:Nat):Int):=by
  show _=((bp s 0-240:Nat):Int);rw[fj s 0 h0];omega
 have HC0:=hid hc0;have HB:=hid hb;clear r1 r2 r3 hcl hb hb0 hc0;obtain⟨a,ha⟩:∃a,a=bp s 0-240:=⟨_,rfl⟩;rw[<-ha] at HC0 HR3 HCL;have HA0:=hid ha;clear ha;go_enter iJ,gZ;go_wp2;go_loop [7,8] (λc i=>∃j C:Nat,j<4∧i= .int .i64 (j+1:Nat)∧c= .int .i64 C∧Hid (C=cF a (bp s) j)∧Hid (∀m,1<=m->m<=j->cN (bp s m))) (λ_ i=>4-(RowKit.intOf i).toNat)
 case atStart=>exact⟨0,cF a (bp s) 0,by omega,rfl,by rw[HC0.out],rfl,λm h1 h2=>absurd h1 (by omega)⟩
 case round=>
  obtain⟨j,C,hj,rfl,rfl,HC,HM⟩:=hrel;have hCl:C<=9000000:=by rw[HC.out];exact HCL.out j (by omega)
  by_cases hlt:j+1<4
  ·have hd:j+1<s.size:=by omega
   have d0:=s[j+1].toNat_lt;have hbg:=fj s (j+1) hd;have HBG:=hid hbg;clear hbg;by_cases hcn:cN (bp s (j+1))
   ·have hcn2:=hcn;rw[HBG.out] at hcn2;have d1:¬(s[j+1].toNat:Int)<128:=by have:=hcn2.1;omega
    have d2:¬(192:Int)<=(s[j+1].toNat:Int):=by have:=hcn2.2;omega
    have HC2:Hid (((C:Int)*64+(s[j+1].toNat:Int)-128)=((cF a (bp s) (j+1):Nat):Int)):=by
     show _=((cF a (bp s) j*64+(bp s (j+1)-128):Nat):Int);rw[<-HC.out,HBG.out];omega
    have HM2:Hid (∀m,1<=m->m<=j+1->cN (bp s m)):=λm h1 h2=>by
     rcases cj j m with h|h
     ·obtain rfl:m=j+1:=by omega
      exact hcn
     ·exact HM.out m h1 h
    clear hcn hcn2;go_wp2;go_round
    case rel=>exact⟨j+1,cF a (bp s) (j+1),by omega,by go_num,by rw[<-HC2.out],rfl,HM2⟩
    case measure=>simp[RowKit.intOf];omega
   ·obtain rfl:R=none:=HR2.out (j+1) (by omega) hlt hcn;have hcn2:¬(128<=s[j+1].toNat∧s[j+1].toNat<192):=by rw[<-HBG.out];exact hcn
    clear hcn;by_cases hx:s[j+1].toNat<128
    ·have d1:(s[j+1].toNat:Int)<128:=by omega
     clear hcn2 hx;go_wp2;go_ret3;exact⟨rfl,rfl⟩
    ·have d1:¬(s[j+1].toNat:Int)<128:=by omega
     have d2:(192:Int)<=(s[j+1].toNat:Int):=by omega
     clear hcn2 hx;go_wp2;go_ret3;exact⟨rfl,rfl⟩
  ·obtain rfl:j=3:=by omega
   have h3:=HR3.out (by omega) (λm h1 h2=>HM.out m h1 (by omega));rw[<-HC.out] at h3
   try simp only at h3
   have hCb:C<=2097151:=by
    rw[HC.out];have ha:a<=4:=by rw[HA0.out];have:=HB.out;omega
    have q1:=(HM.out 1 (by omega) (by omega)).2;have q2:=(HM.out 2 (by omega) (by omega)).2;have q3:=(HM.out 3 (by omega) (by omega)).2;rw[cF3];omega
   obtain⟨h3,h4⟩:=h3;by_cases e1:C<65536
   ·obtain rfl:R=none:=h4 (by omega);have v0:(C:Int)<65536:=by omega
    clear h3 h4 e1;go_wp2;go_ret3;exact⟨rfl,rfl⟩
   by_cases e2:C<=1114111
   ·obtain rfl:R=some (C,4):=h3 (by omega);have v0:¬(C:Int)<65536:=by omega
    have v1:¬(1114111:Int)<(C:Int):=by omega
    have v2:(55296:Int)<=(C:Int):=by omega
    have v3:¬(C:Int)<57344:=by omega
    clear h3 h4 e1 e2;go_wp2;go_ret3;exact⟨rfl,rfl⟩
   ·obtain rfl:R=none:=h4 (by omega);have v0:¬(C:Int)<65536:=by omega
    have v1:(1114111:Int)<(C:Int):=by omega
    clear h3 h4 e1 e2;go_wp2;go_ret3;exact⟨rfl,rfl⟩
end
section
open Go.RowKit Go.Lib Go.Sort
theorem first_any (s:ByteArray) (w:World) (hs:s.size<=9223372036854775807) (h0:0<s.size):
  Calls Tryz.prog 212 #[s] w λe w'=>e= .returned (firstV (rfL s.data.toList))∧w'=w:=by
 have hb:=byteN_lt s 0;by_cases c0:bp s 0<128
 ·exact first_low s w hs h0 c0
 by_cases c1:bp s 0<194
 ·exact first_bad s w hs h0 (.inl ⟨by omega,c1⟩)
 by_cases c2:bp s 0<224
 ·exact first_2 s w hs h0 ⟨by omega,c2⟩
 by_cases c3:bp s 0<240
 ·exact first_3 s w hs h0 ⟨by omega,c3⟩
 by_cases c4:bp s 0<245
 ·exact first_4 s w hs h0 ⟨by omega,c4⟩
 ·exact first_bad s w hs h0 (.inr (by omega))
theorem infoStr:(Tryz.prog.info? 9).map (λi=>(i.zero,i.size,i.bytes))=some (some (.string ⟨#[]⟩),1,16):=by kernel_rfl
theorem cell1 (W:World) (u:Value) (e:TypeId) (j:Nat) (v:Value) (h:[u][j]? =some v):(W.alloc (.cells #[u] e)).cell? ((⟨W.heap.size,0,none⟩:Addr).add j)=some v:=by
 have hb:=am W (.cells #[u] e);cases j with
 |zero=>
  have e2:(⟨W.heap.size,0,none⟩:Addr).add 0=⟨W.heap.size,0,none⟩:=rfl;rw[e2,aD _ _ _ _ _ _ hb];simpa using h
 |succ j=>simp at h
def cntAdd (m:Nat):Option Nat->Option Nat
 |none=>none
 |some q=>some (q+m)
theorem cntAdd_step {l:List UInt8} (hl:l≠[]) (m:Nat) {c k:Nat} (h:rfL l=some (c,k)):cntAdd m (cnt l)=cntAdd (m+1) (cnt (l.drop k)):=by
 rw[cnt_step hl,h];simp only;cases cnt (l.drop k) with
 |none=>rfl
 |some q=>show some (q+1+m)=some (q+(m+1));congr 1;omega
theorem cntAdd_none {l:List UInt8} (hl:l≠[]) (m:Nat) (h:rfL l=none):cntAdd m (cnt l)=none:=by
 rw[cnt_step hl,h];rfl
theorem drop_ext (s:ByteArray) (k:Nat):(s.extract k s.size).data.toList=s.data.toList.drop k:=by
 rw[gT,iw,fS];exact di (by simp)
def SpQ (r:Option Nat) (w:World) (e:Ending) (w':World):Prop:=match r with
 |none=>e= .returned (.tuple #[.slice none 0 0,(60:Int)])∧Below w.heap.size w w'
 |some m=>∃A c,e= .returned (.tuple #[.slice A m c,(0:Int)])∧Below w.heap.size w w'
theorem split6_any (s:ByteArray) (w:World) (hs:s.size<=1000000):
  Calls Tryz.prog 193 #[s] w λe w'=>SpQ (cnt s.data.toList) w e w':=by
 obtain⟨R,hR⟩:∃R,R=cnt s.data.toList:=⟨_,rfl⟩;rw[<-hR];have HR:=hid hR;clear hR;obtain⟨i0,hi,hz0,hz1,hz2⟩:=bD infoStr;go_enter Tryz.func193,Tryz.ntmps193;go_wp2;go_loopw [0,4] (λt v wr=>∃T:ByteArray,∃m:Nat,∃xs:List Value,t= .string T∧T.size+m<=s.size∧wr.ownsRow w.heap.size 9 1 v m xs∧Below w.heap.size w wr∧Hid (R=cntAdd m (cnt T.data.toList))) (λt _ _=>match t with| .string T=>T.size|_=>0)
 case atStart=>exact⟨s,0,[],rfl,by omega,aF _ _ _ _,ag _ _,by
  show R=_;rw[HR.out]
  cases cnt s.data.toList<;>rfl⟩
 case round=>
  obtain⟨T,m,xs,rfl,hm,hO,hB,HC⟩:=hrel;have hTl:T.data.toList.length=T.size:=by simp
  by_cases h0:0<T.size
  ·have hne:T.data.toList≠[]:=λe=>by rw[e] at hTl;simp at hTl;omega
   have hF:=first_any T wr (by omega) h0;cases hr:rfL T.data.toList with
   |none=>
    rw[hr] at hF;obtain rfl:R=none:=by rw[HC.out,cntAdd_none hne m hr]
    have HF:Hid (Calls Tryz.prog 212 #[T] wr λe w'=>e= .returned (.tuple #[(0:Int),(0:Int),false])∧w'=wr):=hF;clear hF hr hne hTl hO;go_wp2_with fail;refine HF.out.mono ?_;rintro e w1 ⟨rfl,rfl⟩;go_wp2;go_ret2;exact⟨rfl,hB⟩
   | some p=>
    obtain⟨c,k⟩:=p;rw[hr] at hF;have hk:=je hne hr;rw[hTl] at hk;have HC2:Hid (R=cntAdd (m+1) (cnt (T.extract k T.size).data.toList)):=by
     show R=_;rw[HC.out,cntAdd_step hne m hr,drop_ext]
    have HF:Hid (Calls Tryz.prog 212 #[T] wr λe w'=>e= .returned (.tuple #[.int .i64 (c:Nat),.int .i64 (k:Nat),true])∧w'=wr):=hF;obtain⟨hk1,hk2⟩:=hk;have b1:(0:Int)<=(k:Int):=by omega
    have b2:(k:Int)<=(T.size:Int):=by omega
    have hsz:=hB.size;have hex:(T.extract k T.size).size=T.size-k:=by rw[cI];omega
    have HEX:=hid hex;clear hF hr hne hTl hex;go_wp2_with fail;refine HF.out.mono ?_;rintro e w1 ⟨rfl,rfl⟩;go_wp2_with (at_builtin;refine bu _ rfl _ _ 60 rfl w.heap.size 9 i0 (.string ⟨#[]⟩) 1 16 Tryz.underlying60 hi hz0 hz1 hz2 rfl (by decide) _ _ _ rfl (by exact hO.alloc _) ⟨w1.heap.size,0,none⟩ 1 1 [.string (T.extract 0 k)] rfl rfl (by exact cell1 _ _ _) (λu hu=>by simp at hu;subst hu;rfl) (by unfold maxLen;omega) (by omega) (by simp;omega) ?_;intro v' w3 hown' hgrow _);go_roundw
    case rel=>exact⟨_,m+1,_,rfl,by rw[HEX.out];omega,hown',(hB.alloc (by omega) _).grown hgrow (by simp;omega) (λi h=>(hO.lt i h).1),HC2⟩
    case measure=>show(T.extract k T.size).size<T.size;rw[HEX.out];omega
  ·have he:T.data.toList=[]:=by
    cases e:T.data.toList with
    |nil=>rfl
    |cons a l=>rw[e] at hTl;simp at hTl;omega
   obtain rfl:R=some m:=by rw[HC.out,he,cnt_nil];show some (0+m)=_;rw[bN]
   have hTs:T.size=0:=by omega
   obtain rfl:T=⟨#[]⟩:=gm.1 he;obtain⟨A,cc,rfl⟩:∃A cc,u4=Value.slice A m cc:=by
    rcases hO.2 with⟨rfl,rfl⟩|⟨g,cap,cur,rfl,_⟩
    ·exact⟨_,_,rfl⟩
    ·exact⟨_,_,rfl⟩
   clear hO hTl he hTs;go_wp2;go_ret2;exact⟨A,cc,rfl,hB⟩
theorem reflen_ok (s:ByteArray) (m:Nat) (w:World) (hs:s.size<=1000000) (h:cnt s.data.toList=some m):
  Calls Tryz.prog 163 #[s] w λe w'=>e= .returned (.tuple #[.int .i64 m,(0:Int)])∧Below w.heap.size w w':=by
 have hS:=split6_any s w hs;rw[h] at hS;have HS:=hid hS;clear hS h;go_enter Tryz.func163,Tryz.ntmps163;go_wp2_with fail;refine HS.out.mono ?_;rintro e w1 ⟨A,c,rfl,hB⟩;go_wp2;go_ret2;exact⟨rfl,hB⟩
end
section
open Go.RowKit Go.Lib Go.Sort
set_option linter.unusedSimpArgs false
theorem vbare_0 (k nt nr ni pt pr pi:Int) (name:ByteArray) (dir:Bool) (dA:Option Addr) (dn dc:Nat) (at_ ar ai et er ei:Int) (text:ByteArray) (eA:Option Addr) (en ec:Nat) (w:World) (hvt:((decide (dn=0)) && (Gid.none ⟨⟨at_,ar⟩,ai⟩) && (Gid.none ⟨⟨et,er⟩,ei⟩) && (decide (text.data.toList=[])) && (decide (en=0)))=true):
  Calls Tryz.prog 160 #[.agg #[k,nt,nr,ni,pt,pr,pi,name,dir,.slice dA dn dc,at_,ar,ai,et,er,ei,text,.slice eA en ec],true,true,false,false,false] w λe w'=>e= .returned (.bool ((decide (dn=0)) && (Gid.none ⟨⟨at_,ar⟩,ai⟩) && (Gid.none ⟨⟨et,er⟩,ei⟩) && (decide (text.data.toList=[])) && (decide (en=0))))∧Below w.heap.size w w':=by
 obtain⟨ans,ha⟩:∃a,a=((decide (dn=0)) && (Gid.none ⟨⟨at_,ar⟩,ai⟩) && (Gid.none ⟨⟨et,er⟩,ei⟩) && (decide (text.data.toList=[])) && (decide (en=0))):=⟨_,rfl⟩;rw[<-ha];have HV:=hid ha;have HVT:=hid (show ans=true by rw[ha];exact hvt);clear hvt;clear ha;obtain⟨W,hW⟩:∃W,W=w.alloc (.cells #[k,nt,nr,ni,pt,pr,pi,name,dir,.slice dA dn dc,at_,ar,ai,et,er,ei,text,.slice eA en ec] 125):=⟨_,rfl⟩;have hBW:Below w.heap.size w W:=by subst hW;exact(ag _ _).alloc (aa _) _
 have hA:W.heap[w.heap.size]? =some (.cells #[k,nt,nr,ni,pt,pr,pi,name,dir,.slice dA dn dc,at_,ar,ai,et,er,ei,text,.slice eA en ec] 125 (0,0)):=by subst hW;exact am _ _
 have HW:=hid hW;have HA:=hid hA;have hlt:w.heap.size<W.heap.size:=by subst hW;simp
 clear hW hA;by_cases h_dl0:dn=0
 rotate_left
 ·have h_dl:decide (dn=0)=false:=aE h_dl0;obtain rfl:ans=false:=by rw[HV.out];simp only[h_dl,bc,ba,bg,aY]
  exact absurd HVT.out (by decide)
 have h_dl:decide (dn=0)=true:=aN h_dl0;cases h_an:Gid.none ⟨⟨at_,ar⟩,ai⟩ with
 |false=>
  obtain rfl:ans=false:=by rw[HV.out];simp only[h_dl,h_an,bc,ba,bg,aY]
  exact absurd HVT.out (by decide)
 |true=>
 cases h_en_:Gid.none ⟨⟨et,er⟩,ei⟩ with
 |false=>
  obtain rfl:ans=false:=by rw[HV.out];simp only[h_dl,h_an,h_en_,bc,ba,bg,aY]
  exact absurd HVT.out (by decide)
 |true=>
 by_cases h_tx0:text.data.toList=[]
 rotate_left
 ·have h_tx:decide (text.data.toList=[])=false:=aE h_tx0;obtain rfl:ans=false:=by rw[HV.out];simp only[h_dl,h_an,h_en_,h_tx,bc,ba,bg,aY]
  exact absurd HVT.out (by decide)
 have h_tx:decide (text.data.toList=[])=true:=aN h_tx0;by_cases h_el0:en=0
 rotate_left
 ·have h_el:decide (en=0)=false:=aE h_el0;obtain rfl:ans=false:=by rw[HV.out];simp only[h_dl,h_an,h_en_,h_tx,h_el,bc,ba,bg,aY]
  exact absurd HVT.out (by decide)
 have h_el:decide (en=0)=true:=aN h_el0;obtain rfl:ans=true:=by rw[HV.out];simp only[h_dl,h_an,h_en_,h_tx,h_el,bc,ba,bg,aY]
 have s_dl:decide (0<dn)=false:=aE (by omega);obtain rfl:=gm.1 h_tx0;have s_el:((en:Int) == 0)=true:=by rw[ce];omega
 have s_el2:decide (en=0)=true:=aN h_el0;have hA_W:W.heap[w.heap.size]? =some (.cells #[k,nt,nr,ni,pt,pr,pi,name,dir,.slice dA dn dc,at_,ar,ai,et,er,ei,.string ⟨#[]⟩,.slice eA en ec] 125 (0,0)):=HA.out;have x4:=rg4 hA_W;have x5:=rg5 hA_W;have x6:=rg6 hA_W;have x7:=rg7 hA_W;have x8:=rg8 hA_W;have x9:=rg9 hA_W;have x10:=rg10 hA_W;have x11:=rg11 hA_W;have x12:=rg12 hA_W;have x13:=rg13 hA_W;have x14:=rg14 hA_W;have x15:=rg15 hA_W;have x16:=rg16 hA_W;have x17:=rg17 hA_W;clear hA_W;have H_an:=hid h_an;have H_en_:=hid h_en_;clear h_an h_en_ h_tx h_tx0 h_dl0 h_el0 h_dl h_el;go_enter Tryz.func160,Tryz.ntmps160;go_upto_region 1 with(fail);rw[<-HW.out];refine bF ?_
 repeat(any_goals(first|go_big_quiet_step (fail)|quiet_step (fail)))
 refine qz λwq hBq=> ?_;have hB1:=hBW.trans (hBq.mono hBW.size);have hA1:=(hBq.block _ hlt).trans HA.out;have HA1:=hid hA1;clear hA1 hBq x4 x5 x6 x7 x8 x9 x10 x11 x12 x13 x14 x15 x16 x17;obtain⟨W1,hW1⟩:∃W1,W1=wq:=⟨_,rfl⟩;rw[<-hW1] at hB1 HA1 ⊢;clear hW1;go_upto_region 3 with(fail);have hA_W1:W1.heap[w.heap.size]? =some (.cells #[k,nt,nr,ni,pt,pr,pi,name,dir,.slice dA dn dc,at_,ar,ai,et,er,ei,.string ⟨#[]⟩,.slice eA en ec] 125 (0,0)):=HA1.out;have x4:=rg4 hA_W1;have x5:=rg5 hA_W1;have x6:=rg6 hA_W1;have x7:=rg7 hA_W1;have x8:=rg8 hA_W1;have x9:=rg9 hA_W1;have x10:=rg10 hA_W1;have x11:=rg11 hA_W1;have x12:=rg12 hA_W1;have x13:=rg13 hA_W1;have x14:=rg14 hA_W1;have x15:=rg15 hA_W1;have x16:=rg16 hA_W1;have x17:=rg17 hA_W1;clear hA_W1;have h_an:=H_an.out;have h_en_:=H_en_.out;have c_an:=λd os=>ay (ez at_ ar ai (grow (redrawn W1 d) os));rw[h_an] at c_an;have c_en_:=λd os=>ay (ez et er ei (grow (redrawn W1 d) os));rw[h_en_] at c_en_;clear h_an h_en_;refine bF ?_
 repeat(any_goals(first|go_big_quiet_step (with_reducible first|exact c_an _ _|exact c_en_ _ _)|quiet_step (with_reducible first|exact c_an _ _|exact c_en_ _ _)))
 refine qz λwq hBq=> ?_;go_wp2;go_ret;exact⟨rfl,hB1.trans (hBq.mono hB1.size)⟩
theorem vbare_1 (k nt nr ni pt pr pi:Int) (name:ByteArray) (dir:Bool) (dA:Option Addr) (dn dc:Nat) (at_ ar ai et er ei:Int) (text:ByteArray) (eA:Option Addr) (en ec:Nat) (w:World) (hvt:((!dir) && (decide (dn=0)) && (Gid.none ⟨⟨at_,ar⟩,ai⟩) && (Gid.none ⟨⟨et,er⟩,ei⟩) && (decide (text.data.toList=[])) && (decide (en=0)))=true):
  Calls Tryz.prog 160 #[.agg #[k,nt,nr,ni,pt,pr,pi,name,dir,.slice dA dn dc,at_,ar,ai,et,er,ei,text,.slice eA en ec],true,false,false,false,false] w λe w'=>e= .returned (.bool ((!dir) && (decide (dn=0)) && (Gid.none ⟨⟨at_,ar⟩,ai⟩) && (Gid.none ⟨⟨et,er⟩,ei⟩) && (decide (text.data.toList=[])) && (decide (en=0))))∧Below w.heap.size w w':=by
 obtain⟨ans,ha⟩:∃a,a=((!dir) && (decide (dn=0)) && (Gid.none ⟨⟨at_,ar⟩,ai⟩) && (Gid.none ⟨⟨et,er⟩,ei⟩) && (decide (text.data.toList=[])) && (decide (en=0))):=⟨_,rfl⟩;rw[<-ha];have HV:=hid ha;have HVT:=hid (show ans=true by rw[ha];exact hvt);clear hvt;clear ha;obtain⟨W,hW⟩:∃W,W=w.alloc (.cells #[k,nt,nr,ni,pt,pr,pi,name,dir,.slice dA dn dc,at_,ar,ai,et,er,ei,text,.slice eA en ec] 125):=⟨_,rfl⟩;have hBW:Below w.heap.size w W:=by subst hW;exact(ag _ _).alloc (aa _) _
 have hA:W.heap[w.heap.size]? =some (.cells #[k,nt,nr,ni,pt,pr,pi,name,dir,.slice dA dn dc,at_,ar,ai,et,er,ei,text,.slice eA en ec] 125 (0,0)):=by subst hW;exact am _ _
 have HW:=hid hW;have HA:=hid hA;have hlt:w.heap.size<W.heap.size:=by subst hW;simp
 clear hW hA;cases h_d:(!dir) with
 |false=>
  obtain rfl:ans=false:=by rw[HV.out];simp only[h_d,bc,ba,bg,aY]
  exact absurd HVT.out (by decide)
 |true=>
 by_cases h_dl0:dn=0
 rotate_left
 ·have h_dl:decide (dn=0)=false:=aE h_dl0;obtain rfl:ans=false:=by rw[HV.out];simp only[h_d,h_dl,bc,ba,bg,aY]
  exact absurd HVT.out (by decide)
 have h_dl:decide (dn=0)=true:=aN h_dl0;cases h_an:Gid.none ⟨⟨at_,ar⟩,ai⟩ with
 |false=>
  obtain rfl:ans=false:=by rw[HV.out];simp only[h_d,h_dl,h_an,bc,ba,bg,aY]
  exact absurd HVT.out (by decide)
 |true=>
 cases h_en_:Gid.none ⟨⟨et,er⟩,ei⟩ with
 |false=>
  obtain rfl:ans=false:=by rw[HV.out];simp only[h_d,h_dl,h_an,h_en_,bc,ba,bg,aY]
  exact absurd HVT.out (by decide)
 |true=>
 by_cases h_tx0:text.data.toList=[]
 rotate_left
 ·have h_tx:decide (text.data.toList=[])=false:=aE h_tx0;obtain rfl:ans=false:=by rw[HV.out];simp only[h_d,h_dl,h_an,h_en_,h_tx,bc,ba,bg,aY]
  exact absurd HVT.out (by decide)
 have h_tx:decide (text.data.toList=[])=true:=aN h_tx0;by_cases h_el0:en=0
 rotate_left
 ·have h_el:decide (en=0)=false:=aE h_el0;obtain rfl:ans=false:=by rw[HV.out];simp only[h_d,h_dl,h_an,h_en_,h_tx,h_el,bc,ba,bg,aY]
  exact absurd HVT.out (by decide)
 have h_el:decide (en=0)=true:=aN h_el0;obtain rfl:ans=true:=by rw[HV.out];simp only[h_d,h_dl,h_an,h_en_,h_tx,h_el,bc,ba,bg,aY]
 obtain rfl:dir=false:=by simpa using h_d
 have s_dl:decide (0<dn)=false:=aE (by omega);obtain rfl:=gm.1 h_tx0;have s_el:((en:Int) == 0)=true:=by rw[ce];omega
 have s_el2:decide (en=0)=true:=aN h_el0;have hA_W:W.heap[w.heap.size]? =some (.cells #[k,nt,nr,ni,pt,pr,pi,name,false,.slice dA dn dc,at_,ar,ai,et,er,ei,.string ⟨#[]⟩,.slice eA en ec] 125 (0,0)):=HA.out;have x4:=rg4 hA_W;have x5:=rg5 hA_W;have x6:=rg6 hA_W;have x7:=rg7 hA_W;have x8:=rg8 hA_W;have x9:=rg9 hA_W;have x10:=rg10 hA_W;have x11:=rg11 hA_W;have x12:=rg12 hA_W;have x13:=rg13 hA_W;have x14:=rg14 hA_W;have x15:=rg15 hA_W;have x16:=rg16 hA_W;have x17:=rg17 hA_W;clear hA_W;have H_an:=hid h_an;have H_en_:=hid h_en_;clear h_d h_an h_en_ h_tx h_tx0 h_dl0 h_el0 h_dl h_el;go_enter Tryz.func160,Tryz.ntmps160;go_upto_region 1 with(fail);rw[<-HW.out];refine bF ?_
 repeat(any_goals(first|go_big_quiet_step (fail)|quiet_step (fail)))
 refine qz λwq hBq=> ?_;have hB1:=hBW.trans (hBq.mono hBW.size);have hA1:=(hBq.block _ hlt).trans HA.out;have HA1:=hid hA1;clear hA1 hBq x4 x5 x6 x7 x8 x9 x10 x11 x12 x13 x14 x15 x16 x17;obtain⟨W1,hW1⟩:∃W1,W1=wq:=⟨_,rfl⟩;rw[<-hW1] at hB1 HA1 ⊢;clear hW1;go_upto_region 3 with(fail);have hA_W1:W1.heap[w.heap.size]? =some (.cells #[k,nt,nr,ni,pt,pr,pi,name,false,.slice dA dn dc,at_,ar,ai,et,er,ei,.string ⟨#[]⟩,.slice eA en ec] 125 (0,0)):=HA1.out;have x4:=rg4 hA_W1;have x5:=rg5 hA_W1;have x6:=rg6 hA_W1;have x7:=rg7 hA_W1;have x8:=rg8 hA_W1;have x9:=rg9 hA_W1;have x10:=rg10 hA_W1;have x11:=rg11 hA_W1;have x12:=rg12 hA_W1;have x13:=rg13 hA_W1;have x14:=rg14 hA_W1;have x15:=rg15 hA_W1;have x16:=rg16 hA_W1;have x17:=rg17 hA_W1;clear hA_W1;have h_an:=H_an.out;have h_en_:=H_en_.out;have c_an:=λd os=>ay (ez at_ ar ai (grow (redrawn W1 d) os));rw[h_an] at c_an;have c_en_:=λd os=>ay (ez et er ei (grow (redrawn W1 d) os));rw[h_en_] at c_en_;clear h_an h_en_;refine bF ?_
 repeat(any_goals(first|go_big_quiet_step (with_reducible first|exact c_an _ _|exact c_en_ _ _)|quiet_step (with_reducible first|exact c_an _ _|exact c_en_ _ _)))
 refine qz λwq hBq=> ?_;go_wp2;go_ret;exact⟨rfl,hB1.trans (hBq.mono hB1.size)⟩
theorem vbare_2 (k nt nr ni pt pr pi:Int) (name:ByteArray) (dir:Bool) (dA:Option Addr) (dn dc:Nat) (at_ ar ai et er ei:Int) (text:ByteArray) (eA:Option Addr) (en ec:Nat) (w:World) (hvt:((Gid.none ⟨⟨pt,pr⟩,pi⟩) && (decide (name.data.toList=[])) && (!dir) && (Gid.none ⟨⟨at_,ar⟩,ai⟩) && (Gid.none ⟨⟨et,er⟩,ei⟩) && (decide (text.data.toList=[])) && (decide (en=0)))=true):
  Calls Tryz.prog 160 #[.agg #[k,nt,nr,ni,pt,pr,pi,name,dir,.slice dA dn dc,at_,ar,ai,et,er,ei,text,.slice eA en ec],false,false,true,false,false] w λe w'=>e= .returned (.bool ((Gid.none ⟨⟨pt,pr⟩,pi⟩) && (decide (name.data.toList=[])) && (!dir) && (Gid.none ⟨⟨at_,ar⟩,ai⟩) && (Gid.none ⟨⟨et,er⟩,ei⟩) && (decide (text.data.toList=[])) && (decide (en=0))))∧Below w.heap.size w w':=by
 obtain⟨ans,ha⟩:∃a,a=((Gid.none ⟨⟨pt,pr⟩,pi⟩) && (decide (name.data.toList=[])) && (!dir) && (Gid.none ⟨⟨at_,ar⟩,ai⟩) && (Gid.none ⟨⟨et,er⟩,ei⟩) && (decide (text.data.toList=[])) && (decide (en=0))):=⟨_,rfl⟩;rw[<-ha];have HV:=hid ha;have HVT:=hid (show ans=true by rw[ha];exact hvt);clear hvt;clear ha;obtain⟨W,hW⟩:∃W,W=w.alloc (.cells #[k,nt,nr,ni,pt,pr,pi,name,dir,.slice dA dn dc,at_,ar,ai,et,er,ei,text,.slice eA en ec] 125):=⟨_,rfl⟩;have hBW:Below w.heap.size w W:=by subst hW;exact(ag _ _).alloc (aa _) _
 have hA:W.heap[w.heap.size]? =some (.cells #[k,nt,nr,ni,pt,pr,pi,name,dir,.slice dA dn dc,at_,ar,ai,et,er,ei,text,.slice eA en ec] 125 (0,0)):=by subst hW;exact am _ _
 have HW:=hid hW;have HA:=hid hA;have hlt:w.heap.size<W.heap.size:=by subst hW;simp
 clear hW hA;cases h_pn:Gid.none ⟨⟨pt,pr⟩,pi⟩ with
 |false=>
  obtain rfl:ans=false:=by rw[HV.out];simp only[h_pn,bc,ba,bg,aY]
  exact absurd HVT.out (by decide)
 |true=>
 by_cases h_nm0:name.data.toList=[]
 rotate_left
 ·have h_nm:decide (name.data.toList=[])=false:=aE h_nm0;obtain rfl:ans=false:=by rw[HV.out];simp only[h_pn,h_nm,bc,ba,bg,aY]
  exact absurd HVT.out (by decide)
 have h_nm:decide (name.data.toList=[])=true:=aN h_nm0;cases h_d:(!dir) with
 |false=>
  obtain rfl:ans=false:=by rw[HV.out];simp only[h_pn,h_nm,h_d,bc,ba,bg,aY]
  exact absurd HVT.out (by decide)
 |true=>
 cases h_an:Gid.none ⟨⟨at_,ar⟩,ai⟩ with
 |false=>
  obtain rfl:ans=false:=by rw[HV.out];simp only[h_pn,h_nm,h_d,h_an,bc,ba,bg,aY]
  exact absurd HVT.out (by decide)
 |true=>
 cases h_en_:Gid.none ⟨⟨et,er⟩,ei⟩ with
 |false=>
  obtain rfl:ans=false:=by rw[HV.out];simp only[h_pn,h_nm,h_d,h_an,h_en_,bc,ba,bg,aY]
  exact absurd HVT.out (by decide)
 |true=>
 by_cases h_tx0:text.data.toList=[]
 rotate_left
 ·have h_tx:decide (text.data.toList=[])=false:=aE h_tx0;obtain rfl:ans=false:=by rw[HV.out];simp only[h_pn,h_nm,h_d,h_an,h_en_,h_tx,bc,ba,bg,aY]
  exact absurd HVT.out (by decide)
 have h_tx:decide (text.data.toList=[])=true:=aN h_tx0;by_cases h_el0:en=0
 rotate_left
 ·have h_el:decide (en=0)=false:=aE h_el0;obtain rfl:ans=false:=by rw[HV.out];simp only[h_pn,h_nm,h_d,h_an,h_en_,h_tx,h_el,bc,ba,bg,aY]
  exact absurd HVT.out (by decide)
 have h_el:decide (en=0)=true:=aN h_el0;obtain rfl:ans=true:=by rw[HV.out];simp only[h_pn,h_nm,h_d,h_an,h_en_,h_tx,h_el,bc,ba,bg,aY]
 obtain rfl:=gm.1 h_nm0;obtain rfl:dir=false:=by simpa using h_d
 obtain rfl:=gm.1 h_tx0;have s_el:((en:Int) == 0)=true:=by rw[ce];omega
 have s_el2:decide (en=0)=true:=aN h_el0;have hA_W:W.heap[w.heap.size]? =some (.cells #[k,nt,nr,ni,pt,pr,pi,.string ⟨#[]⟩,false,.slice dA dn dc,at_,ar,ai,et,er,ei,.string ⟨#[]⟩,.slice eA en ec] 125 (0,0)):=HA.out;have x4:=rg4 hA_W;have x5:=rg5 hA_W;have x6:=rg6 hA_W;have x7:=rg7 hA_W;have x8:=rg8 hA_W;have x9:=rg9 hA_W;have x10:=rg10 hA_W;have x11:=rg11 hA_W;have x12:=rg12 hA_W;have x13:=rg13 hA_W;have x14:=rg14 hA_W;have x15:=rg15 hA_W;have x16:=rg16 hA_W;have x17:=rg17 hA_W;clear hA_W;have c_pn:=λd os=>ay (ez pt pr pi (grow (redrawn W d) os));rw[h_pn] at c_pn;have H_an:=hid h_an;have H_en_:=hid h_en_;clear h_pn h_nm h_d h_an h_en_ h_tx h_nm0 h_tx0 h_el0 h_el;go_enter Tryz.func160,Tryz.ntmps160;go_upto_region 1 with(fail);rw[<-HW.out];refine bF ?_
 repeat(any_goals(first|go_big_quiet_step (with_reducible first|exact c_pn _ _)|quiet_step (with_reducible first|exact c_pn _ _)))
 refine qz λwq hBq=> ?_;have hB1:=hBW.trans (hBq.mono hBW.size);have hA1:=(hBq.block _ hlt).trans HA.out;have HA1:=hid hA1;clear hA1 hBq x4 x5 x6 x7 x8 x9 x10 x11 x12 x13 x14 x15 x16 x17 c_pn;obtain⟨W1,hW1⟩:∃W1,W1=wq:=⟨_,rfl⟩;rw[<-hW1] at hB1 HA1 ⊢;clear hW1;go_upto_region 3 with(fail);have hA_W1:W1.heap[w.heap.size]? =some (.cells #[k,nt,nr,ni,pt,pr,pi,.string ⟨#[]⟩,false,.slice dA dn dc,at_,ar,ai,et,er,ei,.string ⟨#[]⟩,.slice eA en ec] 125 (0,0)):=HA1.out;have x4:=rg4 hA_W1;have x5:=rg5 hA_W1;have x6:=rg6 hA_W1;have x7:=rg7 hA_W1;have x8:=rg8 hA_W1;have x9:=rg9 hA_W1;have x10:=rg10 hA_W1;have x11:=rg11 hA_W1;have x12:=rg12 hA_W1;have x13:=rg13 hA_W1;have x14:=rg14 hA_W1;have x15:=rg15 hA_W1;have x16:=rg16 hA_W1;have x17:=rg17 hA_W1;clear hA_W1;have h_an:=H_an.out;have h_en_:=H_en_.out;have c_an:=λd os=>ay (ez at_ ar ai (grow (redrawn W1 d) os));rw[h_an] at c_an;have c_en_:=λd os=>ay (ez et er ei (grow (redrawn W1 d) os));rw[h_en_] at c_en_;clear h_an h_en_;refine bF ?_
 repeat(any_goals(first|go_big_quiet_step (with_reducible first|exact c_an _ _|exact c_en_ _ _)|quiet_step (with_reducible first|exact c_an _ _|exact c_en_ _ _)))
 refine qz λwq hBq=> ?_;go_wp2;go_ret;exact⟨rfl,hB1.trans (hBq.mono hB1.size)⟩
end
section
open Go.RowKit Go.Lib Go.Sort
set_option linter.unusedSimpArgs false
theorem vbare_3 (k nt nr ni pt pr pi:Int) (name:ByteArray) (dir:Bool) (dA:Option Addr) (dn dc:Nat) (at_ ar ai et er ei:Int) (text:ByteArray) (eA:Option Addr) (en ec:Nat) (w:World) (hvt:((Gid.none ⟨⟨pt,pr⟩,pi⟩) && (decide (name.data.toList=[])) && (!dir) && (decide (dn=0)) && (decide (en=0)))=true):
  Calls Tryz.prog 160 #[.agg #[k,nt,nr,ni,pt,pr,pi,name,dir,.slice dA dn dc,at_,ar,ai,et,er,ei,text,.slice eA en ec],false,false,false,true,false] w λe w'=>e= .returned (.bool ((Gid.none ⟨⟨pt,pr⟩,pi⟩) && (decide (name.data.toList=[])) && (!dir) && (decide (dn=0)) && (decide (en=0))))∧Below w.heap.size w w':=by
 obtain⟨ans,ha⟩:∃a,a=((Gid.none ⟨⟨pt,pr⟩,pi⟩) && (decide (name.data.toList=[])) && (!dir) && (decide (dn=0)) && (decide (en=0))):=⟨_,rfl⟩;rw[<-ha];have HV:=hid ha;have HVT:=hid (show ans=true by rw[ha];exact hvt);clear hvt;clear ha;obtain⟨W,hW⟩:∃W,W=w.alloc (.cells #[k,nt,nr,ni,pt,pr,pi,name,dir,.slice dA dn dc,at_,ar,ai,et,er,ei,text,.slice eA en ec] 125):=⟨_,rfl⟩;have hBW:Below w.heap.size w W:=by subst hW;exact(ag _ _).alloc (aa _) _
 have hA:W.heap[w.heap.size]? =some (.cells #[k,nt,nr,ni,pt,pr,pi,name,dir,.slice dA dn dc,at_,ar,ai,et,er,ei,text,.slice eA en ec] 125 (0,0)):=by subst hW;exact am _ _
 have HW:=hid hW;have HA:=hid hA;have hlt:w.heap.size<W.heap.size:=by subst hW;simp
 clear hW hA;cases h_pn:Gid.none ⟨⟨pt,pr⟩,pi⟩ with
 |false=>
  obtain rfl:ans=false:=by rw[HV.out];simp only[h_pn,bc,ba,bg,aY]
  exact absurd HVT.out (by decide)
 |true=>
 by_cases h_nm0:name.data.toList=[]
 rotate_left
 ·have h_nm:decide (name.data.toList=[])=false:=aE h_nm0;obtain rfl:ans=false:=by rw[HV.out];simp only[h_pn,h_nm,bc,ba,bg,aY]
  exact absurd HVT.out (by decide)
 have h_nm:decide (name.data.toList=[])=true:=aN h_nm0;cases h_d:(!dir) with
 |false=>
  obtain rfl:ans=false:=by rw[HV.out];simp only[h_pn,h_nm,h_d,bc,ba,bg,aY]
  exact absurd HVT.out (by decide)
 |true=>
 by_cases h_dl0:dn=0
 rotate_left
 ·have h_dl:decide (dn=0)=false:=aE h_dl0;obtain rfl:ans=false:=by rw[HV.out];simp only[h_pn,h_nm,h_d,h_dl,bc,ba,bg,aY]
  exact absurd HVT.out (by decide)
 have h_dl:decide (dn=0)=true:=aN h_dl0;by_cases h_el0:en=0
 rotate_left
 ·have h_el:decide (en=0)=false:=aE h_el0;obtain rfl:ans=false:=by rw[HV.out];simp only[h_pn,h_nm,h_d,h_dl,h_el,bc,ba,bg,aY]
  exact absurd HVT.out (by decide)
 have h_el:decide (en=0)=true:=aN h_el0;obtain rfl:ans=true:=by rw[HV.out];simp only[h_pn,h_nm,h_d,h_dl,h_el,bc,ba,bg,aY]
 obtain rfl:=gm.1 h_nm0;obtain rfl:dir=false:=by simpa using h_d
 have s_dl:decide (0<dn)=false:=aE (by omega);have s_el:((en:Int) == 0)=true:=by rw[ce];omega
 have s_el2:decide (en=0)=true:=aN h_el0;have hA_W:W.heap[w.heap.size]? =some (.cells #[k,nt,nr,ni,pt,pr,pi,.string ⟨#[]⟩,false,.slice dA dn dc,at_,ar,ai,et,er,ei,text,.slice eA en ec] 125 (0,0)):=HA.out;have x4:=rg4 hA_W;have x5:=rg5 hA_W;have x6:=rg6 hA_W;have x7:=rg7 hA_W;have x8:=rg8 hA_W;have x9:=rg9 hA_W;have x10:=rg10 hA_W;have x11:=rg11 hA_W;have x12:=rg12 hA_W;have x13:=rg13 hA_W;have x14:=rg14 hA_W;have x15:=rg15 hA_W;have x16:=rg16 hA_W;have x17:=rg17 hA_W;clear hA_W;have c_pn:=λd os=>ay (ez pt pr pi (grow (redrawn W d) os));rw[h_pn] at c_pn;clear h_pn h_nm h_d h_nm0 h_dl0 h_el0 h_dl h_el;go_enter Tryz.func160,Tryz.ntmps160;go_upto_region 1 with(fail);rw[<-HW.out];refine bF ?_
 repeat(any_goals(first|go_big_quiet_step (with_reducible first|exact c_pn _ _)|quiet_step (with_reducible first|exact c_pn _ _)))
 refine qz λwq hBq=> ?_;have hB1:=hBW.trans (hBq.mono hBW.size);have hA1:=(hBq.block _ hlt).trans HA.out;have HA1:=hid hA1;clear hA1 hBq x4 x5 x6 x7 x8 x9 x10 x11 x12 x13 x14 x15 x16 x17 c_pn;obtain⟨W1,hW1⟩:∃W1,W1=wq:=⟨_,rfl⟩;rw[<-hW1] at hB1 HA1 ⊢;clear hW1;go_upto_region 3 with(fail);have hA_W1:W1.heap[w.heap.size]? =some (.cells #[k,nt,nr,ni,pt,pr,pi,.string ⟨#[]⟩,false,.slice dA dn dc,at_,ar,ai,et,er,ei,text,.slice eA en ec] 125 (0,0)):=HA1.out;have x4:=rg4 hA_W1;have x5:=rg5 hA_W1;have x6:=rg6 hA_W1;have x7:=rg7 hA_W1;have x8:=rg8 hA_W1;have x9:=rg9 hA_W1;have x10:=rg10 hA_W1;have x11:=rg11 hA_W1;have x12:=rg12 hA_W1;have x13:=rg13 hA_W1;have x14:=rg14 hA_W1;have x15:=rg15 hA_W1;have x16:=rg16 hA_W1;have x17:=rg17 hA_W1;clear hA_W1;refine bF ?_
 repeat(any_goals(first|go_big_quiet_step (fail)|quiet_step (fail)))
 refine qz λwq hBq=> ?_;go_wp2;go_ret;exact⟨rfl,hB1.trans (hBq.mono hB1.size)⟩
theorem vbare_4 (k nt nr ni pt pr pi:Int) (name:ByteArray) (dir:Bool) (dA:Option Addr) (dn dc:Nat) (at_ ar ai et er ei:Int) (text:ByteArray) (eA:Option Addr) (en ec:Nat) (w:World) (hvt:((Gid.none ⟨⟨pt,pr⟩,pi⟩) && (decide (name.data.toList=[])) && (!dir) && (decide (dn=0)) && (Gid.none ⟨⟨at_,ar⟩,ai⟩) && (Gid.none ⟨⟨et,er⟩,ei⟩) && (decide (text.data.toList=[])))=true):
  Calls Tryz.prog 160 #[.agg #[k,nt,nr,ni,pt,pr,pi,name,dir,.slice dA dn dc,at_,ar,ai,et,er,ei,text,.slice eA en ec],false,false,false,false,true] w λe w'=>e= .returned (.bool ((Gid.none ⟨⟨pt,pr⟩,pi⟩) && (decide (name.data.toList=[])) && (!dir) && (decide (dn=0)) && (Gid.none ⟨⟨at_,ar⟩,ai⟩) && (Gid.none ⟨⟨et,er⟩,ei⟩) && (decide (text.data.toList=[]))))∧Below w.heap.size w w':=by
 obtain⟨ans,ha⟩:∃a,a=((Gid.none ⟨⟨pt,pr⟩,pi⟩) && (decide (name.data.toList=[])) && (!dir) && (decide (dn=0)) && (Gid.none ⟨⟨at_,ar⟩,ai⟩) && (Gid.none ⟨⟨et,er⟩,ei⟩) && (decide (text.data.toList=[]))):=⟨_,rfl⟩;rw[<-ha];have HV:=hid ha;have HVT:=hid (show ans=true by rw[ha];exact hvt);clear hvt;clear ha;obtain⟨W,hW⟩:∃W,W=w.alloc (.cells #[k,nt,nr,ni,pt,pr,pi,name,dir,.slice dA dn dc,at_,ar,ai,et,er,ei,text,.slice eA en ec] 125):=⟨_,rfl⟩;have hBW:Below w.heap.size w W:=by subst hW;exact(ag _ _).alloc (aa _) _
 have hA:W.heap[w.heap.size]? =some (.cells #[k,nt,nr,ni,pt,pr,pi,name,dir,.slice dA dn dc,at_,ar,ai,et,er,ei,text,.slice eA en ec] 125 (0,0)):=by subst hW;exact am _ _
 have HW:=hid hW;have HA:=hid hA;have hlt:w.heap.size<W.heap.size:=by subst hW;simp
 clear hW hA;cases h_pn:Gid.none ⟨⟨pt,pr⟩,pi⟩ with
 |false=>
  obtain rfl:ans=false:=by rw[HV.out];simp only[h_pn,bc,ba,bg,aY]
  exact absurd HVT.out (by decide)
 |true=>
 by_cases h_nm0:name.data.toList=[]
 rotate_left
 ·have h_nm:decide (name.data.toList=[])=false:=aE h_nm0;obtain rfl:ans=false:=by rw[HV.out];simp only[h_pn,h_nm,bc,ba,bg,aY]
  exact absurd HVT.out (by decide)
 have h_nm:decide (name.data.toList=[])=true:=aN h_nm0;cases h_d:(!dir) with
 |false=>
  obtain rfl:ans=false:=by rw[HV.out];simp only[h_pn,h_nm,h_d,bc,ba,bg,aY]
  exact absurd HVT.out (by decide)
 |true=>
 by_cases h_dl0:dn=0
 rotate_left
 ·have h_dl:decide (dn=0)=false:=aE h_dl0;obtain rfl:ans=false:=by rw[HV.out];simp only[h_pn,h_nm,h_d,h_dl,bc,ba,bg,aY]
  exact absurd HVT.out (by decide)
 have h_dl:decide (dn=0)=true:=aN h_dl0;cases h_an:Gid.none ⟨⟨at_,ar⟩,ai⟩ with
 |false=>
  obtain rfl:ans=false:=by rw[HV.out];simp only[h_pn,h_nm,h_d,h_dl,h_an,bc,ba,bg,aY]
  exact absurd HVT.out (by decide)
 |true=>
 cases h_en_:Gid.none ⟨⟨et,er⟩,ei⟩ with
 |false=>
  obtain rfl:ans=false:=by rw[HV.out];simp only[h_pn,h_nm,h_d,h_dl,h_an,h_en_,bc,ba,bg,aY]
  exact absurd HVT.out (by decide)
 |true=>
 by_cases h_tx0:text.data.toList=[]
 rotate_left
 ·have h_tx:decide (text.data.toList=[])=false:=aE h_tx0;obtain rfl:ans=false:=by rw[HV.out];simp only[h_pn,h_nm,h_d,h_dl,h_an,h_en_,h_tx,bc,ba,bg,aY]
  exact absurd HVT.out (by decide)
 have h_tx:decide (text.data.toList=[])=true:=aN h_tx0;obtain rfl:ans=true:=by rw[HV.out];simp only[h_pn,h_nm,h_d,h_dl,h_an,h_en_,h_tx,bc,ba,bg,aY]
 obtain rfl:=gm.1 h_nm0;obtain rfl:dir=false:=by simpa using h_d
 have s_dl:decide (0<dn)=false:=aE (by omega);obtain rfl:=gm.1 h_tx0;have hA_W:W.heap[w.heap.size]? =some (.cells #[k,nt,nr,ni,pt,pr,pi,.string ⟨#[]⟩,false,.slice dA dn dc,at_,ar,ai,et,er,ei,.string ⟨#[]⟩,.slice eA en ec] 125 (0,0)):=HA.out;have x4:=rg4 hA_W;have x5:=rg5 hA_W;have x6:=rg6 hA_W;have x7:=rg7 hA_W;have x8:=rg8 hA_W;have x9:=rg9 hA_W;have x10:=rg10 hA_W;have x11:=rg11 hA_W;have x12:=rg12 hA_W;have x13:=rg13 hA_W;have x14:=rg14 hA_W;have x15:=rg15 hA_W;have x16:=rg16 hA_W;have x17:=rg17 hA_W;clear hA_W;have c_pn:=λd os=>ay (ez pt pr pi (grow (redrawn W d) os));rw[h_pn] at c_pn;have H_an:=hid h_an;have H_en_:=hid h_en_;clear h_pn h_nm h_d h_an h_en_ h_tx h_nm0 h_tx0 h_dl0 h_dl;go_enter Tryz.func160,Tryz.ntmps160;go_upto_region 1 with(fail);rw[<-HW.out];refine bF ?_
 repeat(any_goals(first|go_big_quiet_step (with_reducible first|exact c_pn _ _)|quiet_step (with_reducible first|exact c_pn _ _)))
 refine qz λwq hBq=> ?_;have hB1:=hBW.trans (hBq.mono hBW.size);have hA1:=(hBq.block _ hlt).trans HA.out;have HA1:=hid hA1;clear hA1 hBq x4 x5 x6 x7 x8 x9 x10 x11 x12 x13 x14 x15 x16 x17 c_pn;obtain⟨W1,hW1⟩:∃W1,W1=wq:=⟨_,rfl⟩;rw[<-hW1] at hB1 HA1 ⊢;clear hW1;go_upto_region 3 with(fail);have hA_W1:W1.heap[w.heap.size]? =some (.cells #[k,nt,nr,ni,pt,pr,pi,.string ⟨#[]⟩,false,.slice dA dn dc,at_,ar,ai,et,er,ei,.string ⟨#[]⟩,.slice eA en ec] 125 (0,0)):=HA1.out;have x4:=rg4 hA_W1;have x5:=rg5 hA_W1;have x6:=rg6 hA_W1;have x7:=rg7 hA_W1;have x8:=rg8 hA_W1;have x9:=rg9 hA_W1;have x10:=rg10 hA_W1;have x11:=rg11 hA_W1;have x12:=rg12 hA_W1;have x13:=rg13 hA_W1;have x14:=rg14 hA_W1;have x15:=rg15 hA_W1;have x16:=rg16 hA_W1;have x17:=rg17 hA_W1;clear hA_W1;have h_an:=H_an.out;have h_en_:=H_en_.out;have c_an:=λd os=>ay (ez at_ ar ai (grow (redrawn W1 d) os));rw[h_an] at c_an;have c_en_:=λd os=>ay (ez et er ei (grow (redrawn W1 d) os));rw[h_en_] at c_en_;clear h_an h_en_;refine bF ?_
 repeat(any_goals(first|go_big_quiet_step (with_reducible first|exact c_an _ _|exact c_en_ _ _)|quiet_step (with_reducible first|exact c_an _ _|exact c_en_ _ _)))
 refine qz λwq hBq=> ?_;go_wp2;go_ret;exact⟨rfl,hB1.trans (hBq.mono hB1.size)⟩
end
end
end Go.Proofs.YtkhmicndehlneaaGreatDoor
