/- Part 5 of the walks and plain laws that this claim uses, joined. Conditions: as each theorem states. -/
import Derived.Deep.Light
import Derived.Lib.DecodeNEq
import Derived.Lib.MapLaws
import Derived.Lib.ValidLaws
import Derived.Test.YtkhmicndehlneaaGreatDoorYtb
namespace Go.Proofs.YtkhmicndehlneaaGreatDoor
set_option maxRecDepth 100000
set_option maxHeartbeats 16000000
section
open Go.Lib
set_option linter.unusedVariables false
def cN (b:Nat):Prop:=128≤b∧b<192
instance (b:Nat):Decidable (cN b):=by unfold cN;exact inferInstance
def rfN (n b0 b1 b2 b3:Nat):Option (Nat×Nat):=
 if b0<128 then some (b0,1)
 else if 194≤b0∧b0<224 then (if 2≤n∧cN b1 then some ((b0-192)*64+(b1-128),2) else none)
 else if 224≤b0∧b0<240 then
  (if 3≤n∧cN b1∧cN b2∧2048≤((b0-224)*64+(b1-128))*64+(b2-128)∧(((b0-224)*64+(b1-128))*64+(b2-128)<55296∨57344≤((b0-224)*64+(b1-128))*64+(b2-128)) then some (((b0-224)*64+(b1-128))*64+(b2-128),3) else none)
 else if 240≤b0∧b0<245 then
  (if 4≤n∧cN b1∧cN b2∧cN b3∧65536≤(((b0-240)*64+(b1-128))*64+(b2-128))*64+(b3-128)∧(((b0-240)*64+(b1-128))*64+(b2-128))*64+(b3-128)≤1114111 then some ((((b0-240)*64+(b1-128))*64+(b2-128))*64+(b3-128),4) else none)
 else none
theorem rfN_eq (n b0 b1 b2 b3:Nat) (h0:b0<256) (h1:b1<256) (h2:b2<256) (h3:b3<256):
  (rfN n b0 b1 b2 b3=none∧decodeN n b0 b1 b2 b3=(65533,1))∨(rfN n b0 b1 b2 b3=some (decodeN n b0 b1 b2 b3)∧decodeN n b0 b1 b2 b3≠(65533,1)):=by
 have key:∀(x y:Nat×Nat),x=y→y.2≠1∨y.1<128→((some x:Option (Nat×Nat))=none∧y=(65533,1))∨(some x=some y∧y≠(65533,1)):=by
  intro x y e hy
  subst e
  refine .inr ⟨rfl,fun h=> ?_⟩
  rw[h] at hy
  simp at hy
 by_cases c0:b0<128
 ·unfold rfN decodeN
  rw[if_pos c0,if_pos c0]
  exact key _ _ rfl (.inr c0)
 by_cases c1:b0<194
 ·left
  refine⟨?_,decodeN_bad n b0 b1 b2 b3 (.inl ⟨by omega,c1⟩)⟩
  unfold rfN
  rw[if_neg c0,if_neg (by omega),if_neg (by omega),if_neg (by omega)]
 by_cases c5:245≤b0
 ·left
  refine⟨?_,decodeN_bad n b0 b1 b2 b3 (.inr ⟨by omega,h0⟩)⟩
  unfold rfN
  rw[if_neg c0,if_neg (by omega),if_neg (by omega),if_neg (by omega)]
 unfold rfN decodeN cN
 rw[if_neg c0,if_neg c0]
 repeat' split
 all_goals first
  |(exfalso;omega)
  |exact .inl ⟨rfl,rfl⟩
  |exact key _ _ (by apply Prod.ext<;>simp only<;>omega) (.inl (by simp))
def rfL (l:List UInt8):Option (Nat×Nat):=rfN l.length (l.getD 0 0).toNat (l.getD 1 0).toNat (l.getD 2 0).toNat (l.getD 3 0).toNat
theorem rfL_eq (l:List UInt8):(rfL l=none∧decodeL l=(65533,1))∨(rfL l=some (decodeL l)∧decodeL l≠(65533,1)):=by
 rw[decodeL_N]
 exact rfN_eq _ _ _ _ _ (UInt8.toNat_lt _) (UInt8.toNat_lt _) (UInt8.toNat_lt _) (UInt8.toNat_lt _)
def cntF:Nat→List UInt8→Option Nat
 |0,_=>some 0
 | f+1,l=>if l=[] then some 0 else match rfL l with
  |none=>none
  |some (_,k)=>match cntF f (l.drop k) with
   |none=>none
   |some m=>some (m+1)
theorem rfL_width {l:List UInt8} {c k:Nat} (hl:l≠[]) (h:rfL l=some (c,k)):1≤k∧k≤l.length:=by
 rcases rfL_eq l with⟨h1,_⟩|⟨h1,_⟩
 ·rw[h1] at h;cases h
 ·rw[h1] at h
  injection h with h
  have:=decodeL_width l
  have h2:=decodeL_le l hl
  rw[h] at this h2
  exact⟨this,h2⟩
theorem cntF_fuel:∀(n m:Nat) (l:List UInt8),l.length≤n→l.length≤m→cntF n l=cntF m l
 |0,m,l,hn,_=>by
  obtain rfl:=List.eq_nil_of_length_eq_zero (Nat.le_zero.1 hn)
  cases m<;>simp[cntF]
 |n+1,0,l,_,hm=>by
  obtain rfl:=List.eq_nil_of_length_eq_zero (Nat.le_zero.1 hm)
  simp[cntF]
 | n+1,m+1,l,hn,hm=>by
  simp only[cntF]
  by_cases hl:l=[]
  ·rw[if_pos hl,if_pos hl]
  ·rw[if_neg hl,if_neg hl]
   cases h:rfL l with
   |none=>rfl
   |some p=>
    obtain⟨c,k⟩:=p
    have:=rfL_width hl h
    simp only
    rw[cntF_fuel n m (l.drop k) (by rw[List.length_drop];omega) (by rw[List.length_drop];omega)]
def cnt (l:List UInt8):Option Nat:=cntF l.length l
theorem cnt_nil:cnt []=some 0:=rfl
theorem cnt_step {l:List UInt8} (hl:l≠[]):cnt l=match rfL l with
  |none=>none
  |some (_,k)=>match cnt (l.drop k) with
   |none=>none
   |some m=>some (m+1):=by
 have hp:0<l.length:=List.length_pos_iff.2 hl
 obtain⟨n,hn⟩:∃n,l.length=n+1:=⟨l.length-1,by omega⟩
 unfold cnt
 rw[hn]
 simp only[cntF,if_neg hl]
 cases h:rfL l with
 |none=>rfl
 |some p=>
  obtain⟨c,k⟩:=p
  have:=rfL_width hl h
  simp only
  rw[cntF_fuel n (l.drop k).length (l.drop k) (by rw[List.length_drop];omega) (by omega)]
theorem decode_drop (s:ByteArray) (pos:Nat):Utf8.decode s pos=decodeL (s.data.toList.drop pos):=by
 rw[decode_at,decodeL_N]
 have hl:s.data.toList.length=s.size:=by simp
 have g:∀i,(s.get! (pos+i))=(s.data.toList.drop pos).getD i 0:=fun i=>by
  rw[List.getD_eq_getElem?_getD,List.getElem?_drop]
  cases s with
  |mk d=>
   show d[pos+i]! =_
   rw[getElem!_def,←Array.getElem?_toList]
   cases d.toList[pos+i]? <;>rfl
 rw[←g 0,←g 1,←g 2,←g 3,List.length_drop,hl]
 rfl
theorem cnt_lib (s:ByteArray):∀(f pos:Nat),pos≤s.size→s.size-pos≤f→
  (validD (s.data.toList.drop pos)=(cnt (s.data.toList.drop pos)).isSome)∧∀m,cnt (s.data.toList.drop pos)=some m→runeCountFrom s f pos=m
 | f, pos,hp,hf=>by
  have hl:s.data.toList.length=s.size:=by simp
  by_cases he:pos=s.size
  ·have e:s.data.toList.drop pos=[]:=List.drop_of_length_le (by omega)
   rw[e,cnt_nil]
   refine⟨validD_nil,fun m hm=> ?_⟩
   injection hm with hm
   subst hm
   exact runeCountFrom_end s f pos (by omega)
  ·have hne:s.data.toList.drop pos≠[]:=fun e=>by
    have:=congrArg List.length e
    rw[List.length_drop,hl] at this
    simp at this;omega
   cases f with
   |zero=>omega
   |succ f=>
   rw[validD_step _ hne,cnt_step hne]
   have hd:=decode_drop s pos
   rcases rfL_eq (s.data.toList.drop pos) with⟨h1,h2⟩|⟨h1,h2⟩
   ·rw[h1,h2]
    exact⟨rfl,fun m hm=>by cases hm⟩
   ·rw[h1]
    have hk:1≤(decodeL (s.data.toList.drop pos)).2∧(decodeL (s.data.toList.drop pos)).2≤s.size-pos:=by
     have h3:=rfL_width hne h1
     rwa[List.length_drop,hl] at h3
    have ih:=cnt_lib s f (pos+(decodeL (s.data.toList.drop pos)).2) (by omega) (by omega)
    rw[←List.drop_drop] at ih
    have hnb:¬((decodeL (s.data.toList.drop pos)).1=65533∧(decodeL (s.data.toList.drop pos)).2=1):=fun h=>h2 (Prod.ext h.1 h.2)
    rw[if_neg hnb,ih.1]
    simp only
    refine⟨?_,fun m hm=> ?_⟩
    ·cases cnt (List.drop (decodeL (s.data.toList.drop pos)).2 (s.data.toList.drop pos))<;>rfl
    ·cases hc:cnt (List.drop (decodeL (s.data.toList.drop pos)).2 (s.data.toList.drop pos)) with
     |none=>rw[hc] at hm;cases hm
     |some q=>
      rw[hc] at hm
      injection hm with hm
      have h3:=ih.2 q hc
      unfold runeCountFrom
      rw[if_pos (by omega),hd,h3]
      omega
theorem cnt_valid (s:ByteArray):validD s.data.toList=(cnt s.data.toList).isSome:=by
 have:=(cnt_lib s s.size 0 (by omega) (by omega)).1
 simpa using this
theorem cnt_count {s:ByteArray} {m:Nat} (h:cnt s.data.toList=some m):runeCount s=m:=by
 have:=(cnt_lib s s.size 0 (by omega) (by omega)).2 m
 simp only[List.drop_zero] at this
 exact this h
end
section
section
open Go.RowKit Go.Lib Go.Sort
set_option linter.unusedVariables false
theorem tl_eq {s:ByteArray}:s.toList=s.data.toList:=ByteArray.toList_eq s
def signP (c:Nat):Prop:=(48≤c∧c≤57)∨(65≤c∧c≤90)∨(97≤c∧c≤122)∨c=46∨c=45∨c=95
theorem signB_iff (b:UInt8):signB b=true↔signP b.toNat:=by
 simp only[signB,signP,Bool.or_eq_true,Bool.and_eq_true,decide_eq_true_eq]
 omega
theorem all_get {s:ByteArray} {p:UInt8→Bool} (h:∀i (hi:i<s.size),p s[i]=true):s.data.toList.all p=true:=by
 rw[List.all_eq_true]
 intro b hb
 obtain⟨i,hi,e⟩:=List.mem_iff_getElem.1 hb
 have hi':i<s.size:=by simpa using hi
 have:=h i hi'
 rw[←e]
 exact this
theorem all_not {s:ByteArray} {p:UInt8→Bool} {i:Nat} (hi:i<s.size) (h:p s[i]=false):s.data.toList.all p=false:=by
 cases e:s.data.toList.all p with
 |false=>rfl
 | true=>
  rw[List.all_eq_true] at e
  have:=e s[i] (by
   refine List.mem_iff_getElem.2 ⟨i,by simpa using hi,rfl⟩)
  rw[h] at this;cases this
theorem refname_any (s:ByteArray) (w:World) (hs:s.size≤9223372036854775807):
    Calls Tryz.prog 159 #[.string s] w fun e w'=>e= .returned (.bool (nameB s))∧w'=w:=by
  obtain⟨ans,ha⟩:∃v,v=nameB s:=⟨_,rfl⟩
  rw[←ha]
  have HV:=hid ha
  clear ha
  by_cases h0:s.data.toList=[]
  · obtain rfl:ans=false:=by rw[HV.out];simp[nameB,h0]
    obtain rfl:=bs_nil.1 h0
    go_enter Tryz.func159,Tryz.ntmps159
    go_wp2
    go_ret
    exact⟨rfl,rfl⟩
  have t0:s.toList.isEmpty=false:=by
    rw[tl_eq]
    cases e:s.data.toList with
    |nil=>exact absurd e h0
    |cons a l=>rfl
  by_cases h1:s.size≤32
  · have t1 : ¬(32:Int)<(s.size:Int):=by omega
    by_cases h2:s.data.toList=[46]
    · obtain rfl:ans=false:=by rw[HV.out];simp[nameB,h2]
      obtain rfl:s=⟨#[46]⟩:=ByteArray.ext (Array.toList_inj.1 h2)
      go_enter Tryz.func159,Tryz.ntmps159
      go_wp2
      go_ret
      exact⟨rfl,rfl⟩
    have t2:(s.toList == [46])=false:=by rw[tl_eq];simp[h2]
    by_cases h3:s.data.toList=[46,46]
    · obtain rfl:ans=false:=by rw[HV.out];simp[nameB,h3]
      obtain rfl:s=⟨#[46,46]⟩:=ByteArray.ext (Array.toList_inj.1 h3)
      go_enter Tryz.func159,Tryz.ntmps159
      go_wp2
      go_ret
      exact⟨rfl,rfl⟩
    have t3:(s.toList == [46,46])=false:=by rw[tl_eq];simp[h3]
    have hv:ans=s.data.toList.all signB:=by
      rw[HV.out]
      simp only[nameB]
      rw[decide_eq_true (show s.data.toList≠[] from h0),decide_eq_true h1,decide_eq_true (show s.data.toList≠[46] from h2),decide_eq_true (show s.data.toList≠[46,46] from h3)]
      simp only[Bool.true_and]
    have HVV:=hid hv
    clear hv h0 h1 h2 h3
    go_enter Tryz.func159,Tryz.ntmps159
    go_wp2
    go_loop [3] (fun i=>∃k:Nat,k≤s.size∧i= .int .i64 k∧Hid (∀i (hi:i<s.size),i<k→signB s[i]=true)) (fun i=>s.size-(RowKit.intOf i).toNat)
    case atStart=>exact⟨0,by omega,rfl,fun i _ hi=>absurd hi (by omega)⟩
    case round =>
      obtain⟨k,hk,rfl,HK⟩:=hrel
      by_cases hlt:k<s.size
      · obtain ⟨c,hc⟩:∃c,c=s[k].toNat:=⟨_,rfl⟩
        cases hsg:signB s[k] with
        | true =>
          have hp:=(signB_iff _).1 hsg
          unfold signP at hp
          have HK2:Hid (∀i (hi:i<s.size),i<k+1→signB s[i]=true):=fun i hi hik=>by
            rcases Nat.lt_or_ge i k with h|h
            · exact HK.out i hi h
            · obtain rfl:i=k:=by omega
              exact hsg
          clear hsg hc
          go_wp2
          all_goals first
            |(exfalso;omega)
            |(exfalso;go_light;simp only[Bool.not_eq_true',Bool.not_eq_false',decide_eq_false_iff_not,decide_eq_true_eq,beq_eq_false_iff_ne,beq_iff_eq,ne_eq] at *;omega)
            | (go_round
               case rel=>exact⟨k+1,by omega,by go_num,HK2⟩
               case measure=>simp[RowKit.intOf];omega)
        | false=>
          obtain rfl:ans=false:=by rw[HVV.out];exact all_not hlt hsg
          have hp:¬signP s[k].toNat:=by rw[←signB_iff,hsg];decide
          unfold signP at hp
          clear hsg hc
          go_wp2
          all_goals first
            |(exfalso;omega)
            |(exfalso;go_light;simp only[Bool.not_eq_true',Bool.not_eq_false',decide_eq_false_iff_not,decide_eq_true_eq,beq_eq_false_iff_ne,beq_iff_eq,ne_eq] at *;omega)
            |(go_ret;exact⟨rfl,rfl⟩)
      · obtain rfl:k=s.size:=by omega
        obtain rfl:ans=true:=by rw[HVV.out];exact all_get (fun i hi=>HK.out i hi hi)
        go_wp2
        go_ret
        exact⟨rfl,rfl⟩
  · have t1:(32:Int)<(s.size:Int):=by omega
    obtain rfl:ans=false:=by rw[HV.out];simp[nameB,h1]
    go_enter Tryz.func159,Tryz.ntmps159
    go_wp2
    go_ret
    exact⟨rfl,rfl⟩
end
section
open Go.RowKit Go.Lib Go.Sort
set_option linter.unusedVariables false
set_option linter.unusedSimpArgs false
theorem getD_get (s:ByteArray) (i:Nat) (h:i<s.size):s.data.toList.getD i 0=s[i]:=by
 rw[List.getD_eq_getElem?_getD,List.getElem?_eq_getElem (by simpa using h)]
 rfl
def firstV:Option (Nat×Nat)→Value
 |none=> .tuple #[.int .i64 0,.int .i64 0,.bool false]
 |some (c,k)=> .tuple #[.int .i64 c,.int .i64 k,.bool true]
def byteN (s:ByteArray) (i:Nat):Nat:=(s.data.toList.getD i 0).toNat
theorem byteN_get (s:ByteArray) (i:Nat) (h:i<s.size):byteN s i=s[i].toNat:=by unfold byteN;rw[getD_get s i h]
theorem byteN_lt (s:ByteArray) (i:Nat):byteN s i<256:=UInt8.toNat_lt _
def cF (a:Nat) (b:Nat→Nat):Nat→Nat
 |0=>a
 |j+1=>cF a b j*64+(b (j+1)-128)
theorem cF1 (a:Nat) (b:Nat→Nat):cF a b 1=a*64+(b 1-128):=rfl
theorem cF2 (a:Nat) (b:Nat→Nat):cF a b 2=(a*64+(b 1-128))*64+(b 2-128):=rfl
theorem cF3 (a:Nat) (b:Nat→Nat):cF a b 3=((a*64+(b 1-128))*64+(b 2-128))*64+(b 3-128):=rfl
theorem cF_le (a:Nat) (b:Nat→Nat) (ha:a<32) (hb:∀i,b i<256) (j:Nat) (hj:j≤3):cF a b j≤9000000:=by
 have h1:=hb 1
 have h2:=hb 2
 have h3:=hb 3
 obtain rfl|rfl|rfl|rfl:j=0∨j=1∨j=2∨j=3:=by omega
 ·have e:cF a b 0=a:=rfl
  rw[e];omega
 ·rw[cF1];omega
 ·rw[cF2];omega
 ·rw[cF3];omega
theorem rfL_byte (s:ByteArray):rfL s.data.toList=rfN s.size (byteN s 0) (byteN s 1) (byteN s 2) (byteN s 3):=by
 unfold rfL byteN
 rw[show s.data.toList.length=s.size by simp]
theorem first_low (s:ByteArray) (w:World) (hs:s.size≤9223372036854775807) (h0:0<s.size) (hb:byteN s 0<128):
  Calls Tryz.prog 212 #[.string s] w fun e w'=>e= .returned (firstV (rfL s.data.toList))∧w'=w:=by
 have hr:rfL s.data.toList=some (s[0].toNat,1):=by
  rw[rfL_byte,←byteN_get s 0 h0];unfold rfN;rw[if_pos hb]
 rw[hr]
 rw[byteN_get s 0 h0] at hb
 show Calls _ _ _ _ fun e w'=>e= .returned (.tuple #[.int .i64 (s[0].toNat:Nat),.int .i64 (1:Nat),.bool true])∧w'=w
 have t0:=s[0].toNat_lt
 have t1:(s[0].toNat:Int)<128:=by omega
 clear hr
 go_enter Tryz.func212,Tryz.ntmps212
 go_wp2
 go_ret3
 exact⟨rfl,rfl⟩
theorem first_bad (s:ByteArray) (w:World) (hs:s.size≤9223372036854775807) (h0:0<s.size) (hb:(128≤byteN s 0∧byteN s 0<194)∨245≤byteN s 0):
  Calls Tryz.prog 212 #[.string s] w fun e w'=>e= .returned (firstV (rfL s.data.toList))∧w'=w:=by
 have hr:rfL s.data.toList=none:=by
  rw[rfL_byte];unfold rfN
  rw[if_neg (by omega),if_neg (by omega),if_neg (by omega),if_neg (by omega)]
 rw[hr]
 rw[byteN_get s 0 h0] at hb
 show Calls _ _ _ _ fun e w'=>e= .returned (.tuple #[.int .i64 0,.int .i64 0,.bool false])∧w'=w
 have t0:=s[0].toNat_lt
 clear hr
 rcases hb with hb|hb
 ·have t1:¬(s[0].toNat:Int)<128:=by omega
  have t2:¬(194:Int)≤(s[0].toNat:Int):=by omega
  have t3:¬(224:Int)≤(s[0].toNat:Int):=by omega
  have t4:¬(240:Int)≤(s[0].toNat:Int):=by omega
  clear hb
  go_enter Tryz.func212,Tryz.ntmps212
  go_wp2
  go_ret3
  exact⟨rfl,rfl⟩
 ·have t1:¬(s[0].toNat:Int)<128:=by omega
  have t2:(194:Int)≤(s[0].toNat:Int):=by omega
  have t2':¬(s[0].toNat:Int)<224:=by omega
  have t3:(224:Int)≤(s[0].toNat:Int):=by omega
  have t3':¬(s[0].toNat:Int)<240:=by omega
  have t4:(240:Int)≤(s[0].toNat:Int):=by omega
  have t4':¬(s[0].toNat:Int)<245:=by omega
  clear hb
  go_enter Tryz.func212,Tryz.ntmps212
  go_wp2
  go_ret3
  exact⟨rfl,rfl⟩
theorem rf_2 (s:ByteArray) (hb:194≤byteN s 0∧byteN s 0<224) (X:Nat) (hX:X=cF (byteN s 0-192) (byteN s) 1):
  (s.size<2→rfL s.data.toList=none)∧(∀m,1≤m→m<2→¬cN (byteN s m)→rfL s.data.toList=none)∧
  (2≤s.size→(∀m,1≤m→m<2→cN (byteN s m))→(True→rfL s.data.toList=some (X,2))∧(¬True→rfL s.data.toList=none)):=by
 have hr:rfL s.data.toList=(if 2≤s.size∧cN (byteN s 1) then some (X,2) else none):=by
  rw[rfL_byte,hX]
  unfold rfN
  rw[if_neg (by omega),if_pos hb]
  rfl
 refine⟨fun h=>by rw[hr,if_neg (by omega)],fun m h1 h2 h3=> ?_,fun h1 h2=>⟨fun h3=> ?_,fun h3=> ?_⟩⟩
 ·rw[hr,if_neg]
  intro h4
  obtain rfl:m=1:=by omega
  all_goals first|exact h3 h4.2.1|exact h3 h4.2.2.1|exact h3 h4.2.2.2.1|exact h3 h4.2
 ·rw[hr,if_pos]
  exact⟨h1,h2 1 (by omega) (by omega)⟩
 ·rw[hr,if_neg]
  intro h4
  exact h3 trivial
theorem first_2 (s:ByteArray) (w:World) (hs:s.size≤9223372036854775807) (h0:0<s.size) (hb:194≤byteN s 0∧byteN s 0<224):
  Calls Tryz.prog 212 #[.string s] w fun e w'=>e= .returned (firstV (rfL s.data.toList))∧w'=w:=by
 obtain⟨r1,r2,r3⟩:=rf_2 s hb _ rfl
 obtain⟨R,hR⟩:∃R,R=rfL s.data.toList:=⟨_,rfl⟩
 rw[←hR] at r1 r2 r3 ⊢
 clear hR
 have hcl:=cF_le (byteN s 0-192) (byteN s) (by omega) (byteN_lt s)
 have hb0:=hb
 rw[byteN_get s 0 h0] at hb0
 have t0:=s[0].toNat_lt
 have t1:¬(s[0].toNat:Int)<128:=by omega
 have u0:(194:Int)≤(s[0].toNat:Int):=by omega
 have u1:(s[0].toNat:Int)<224:=by omega
 have HR2:Hid (∀m,1≤m→m<2→¬cN (byteN s m)→R=none):=r2
 have HR3:Hid (2≤s.size→(∀m,1≤m→m<2→cN (byteN s m))→((fun X=>True) (cF (byteN s 0-192) (byteN s) 1)→R=some (cF (byteN s 0-192) (byteN s) 1,2))∧(¬(fun X=>True) (cF (byteN s 0-192) (byteN s) 1)→R=none)):=r3
 have HCL:=hid hcl
 by_cases hsz:s.size<2
 ·obtain rfl:=r1 hsz
  have t5:(s.size:Int)<2:=by omega
  show Calls _ _ _ _ fun e w'=>e= .returned (.tuple #[.int .i64 0,.int .i64 0,.bool false])∧w'=w
  clear r1 r2 r3 hcl hb hb0
  go_enter Tryz.func212,Tryz.ntmps212
  go_wp2
  go_ret3
  exact⟨rfl,rfl⟩
 have t5:¬(s.size:Int)<2:=by omega
 have hc0:(s[0].toNat:Int)-192=((cF (byteN s 0-192) (byteN s) 0:Nat):Int):=by
  show _=((byteN s 0-192:Nat):Int)
  rw[byteN_get s 0 h0];omega
 have HC0:=hid hc0
 have HB:=hid hb
 clear r1 r2 r3 hcl hb hb0 hc0
 obtain⟨a,ha⟩:∃a,a=byteN s 0-192:=⟨_,rfl⟩
 rw[←ha] at HC0 HR3 HCL
 have HA0:=hid ha
 clear ha
 go_enter Tryz.func212,Tryz.ntmps212
 go_wp2
 go_loop [7,8] (fun c i=>∃j C:Nat,j<2∧i= .int .i64 (j+1:Nat)∧c= .int .i64 C∧Hid (C=cF a (byteN s) j)∧Hid (∀m,1≤m→m≤j→cN (byteN s m))) (fun _ i=>2-(RowKit.intOf i).toNat)
 case atStart=>exact⟨0,cF a (byteN s) 0,by omega,rfl,by rw[HC0.out],rfl,fun m h1 h2=>absurd h1 (by omega)⟩
 case round=>
  obtain⟨j,C,hj,rfl,rfl,HC,HM⟩:=hrel
  have hCl:C≤9000000:=by rw[HC.out];exact HCL.out j (by omega)
  by_cases hlt:j+1<2
  ·have hd:j+1<s.size:=by omega
   have d0:=s[j+1].toNat_lt
   have hbg:=byteN_get s (j+1) hd
   have HBG:=hid hbg
   clear hbg
   by_cases hcn:cN (byteN s (j+1))
   ·have hcn2:=hcn
    rw[HBG.out] at hcn2
    have d1:¬(s[j+1].toNat:Int)<128:=by have:=hcn2.1;omega
    have d2:¬(192:Int)≤(s[j+1].toNat:Int):=by have:=hcn2.2;omega
    have HC2:Hid (((C:Int)*64+(s[j+1].toNat:Int)-128)=((cF a (byteN s) (j+1):Nat):Int)):=by
     show _=((cF a (byteN s) j*64+(byteN s (j+1)-128):Nat):Int)
     rw[←HC.out,HBG.out];omega
    have HM2:Hid (∀m,1≤m→m≤j+1→cN (byteN s m)):=fun m h1 h2=>by
     rcases Nat.lt_or_ge j m with h|h
     ·obtain rfl:m=j+1:=by omega
      exact hcn
     ·exact HM.out m h1 h
    clear hcn hcn2
    go_wp2
    go_round
    case rel=>exact⟨j+1,cF a (byteN s) (j+1),by omega,by go_num,by rw[←HC2.out],rfl,HM2⟩
    case measure=>simp[RowKit.intOf];omega
   ·obtain rfl:R=none:=HR2.out (j+1) (by omega) hlt hcn
    have hcn2:¬(128≤s[j+1].toNat∧s[j+1].toNat<192):=by rw[←HBG.out];exact hcn
    clear hcn
    by_cases hx:s[j+1].toNat<128
    ·have d1:(s[j+1].toNat:Int)<128:=by omega
     clear hcn2 hx
     go_wp2
     go_ret3
     exact⟨rfl,rfl⟩
    ·have d1:¬(s[j+1].toNat:Int)<128:=by omega
     have d2:(192:Int)≤(s[j+1].toNat:Int):=by omega
     clear hcn2 hx
     go_wp2
     go_ret3
     exact⟨rfl,rfl⟩
  ·obtain rfl:j=1:=by omega
   have h3:=HR3.out (by omega) (fun m h1 h2=>HM.out m h1 (by omega))
   rw[←HC.out] at h3
   try simp only at h3
   have hCb:C≤2047:=by
    rw[HC.out]
    have ha:a≤31:=by rw[HA0.out];have:=HB.out;omega
    have q1:=(HM.out 1 (by omega) (by omega)).2
    rw[cF1]
    omega
   obtain⟨h3,h4⟩:=h3
   obtain rfl:R=some (C,2):=h3 trivial
   have v0:¬(1114111:Int)<(C:Int):=by omega
   have v1:¬(55296:Int)≤(C:Int):=by omega
   clear h3 h4
   go_wp2
   go_ret3
   exact⟨rfl,rfl⟩
theorem rf_3 (s:ByteArray) (hb:224≤byteN s 0∧byteN s 0<240) (X:Nat) (hX:X=cF (byteN s 0-224) (byteN s) 2):
  (s.size<3→rfL s.data.toList=none)∧(∀m,1≤m→m<3→¬cN (byteN s m)→rfL s.data.toList=none)∧
  (3≤s.size→(∀m,1≤m→m<3→cN (byteN s m))→((2048≤X∧(X<55296∨57344≤X))→rfL s.data.toList=some (X,3))∧(¬(2048≤X∧(X<55296∨57344≤X))→rfL s.data.toList=none)):=by
 have hr:rfL s.data.toList=(if 3≤s.size∧cN (byteN s 1)∧cN (byteN s 2)∧2048≤X∧(X<55296∨57344≤X) then some (X,3) else none):=by
  rw[rfL_byte,hX]
  unfold rfN
  rw[if_neg (by omega),if_neg (by omega),if_pos hb]
  rfl
 refine⟨fun h=>by rw[hr,if_neg (by omega)],fun m h1 h2 h3=> ?_,fun h1 h2=>⟨fun h3=> ?_,fun h3=> ?_⟩⟩
 ·rw[hr,if_neg]
  intro h4
  obtain rfl|rfl:m=1∨m=2:=by omega
  all_goals first|exact h3 h4.2.1|exact h3 h4.2.2.1|exact h3 h4.2.2.2.1|exact h3 h4.2
 ·rw[hr,if_pos]
  exact⟨h1,h2 1 (by omega) (by omega),h2 2 (by omega) (by omega),h3.1,h3.2⟩
 ·rw[hr,if_neg]
  intro h4
  exact h3 ⟨h4.2.2.2.1,h4.2.2.2.2⟩
theorem first_3 (s:ByteArray) (w:World) (hs:s.size≤9223372036854775807) (h0:0<s.size) (hb:224≤byteN s 0∧byteN s 0<240):
  Calls Tryz.prog 212 #[.string s] w fun e w'=>e= .returned (firstV (rfL s.data.toList))∧w'=w:=by
 obtain⟨r1,r2,r3⟩:=rf_3 s hb _ rfl
 obtain⟨R,hR⟩:∃R,R=rfL s.data.toList:=⟨_,rfl⟩
 rw[←hR] at r1 r2 r3 ⊢
 clear hR
 have hcl:=cF_le (byteN s 0-224) (byteN s) (by omega) (byteN_lt s)
 have hb0:=hb
 rw[byteN_get s 0 h0] at hb0
 have t0:=s[0].toNat_lt
 have t1:¬(s[0].toNat:Int)<128:=by omega
 have u0:(194:Int)≤(s[0].toNat:Int):=by omega
 have u1:¬(s[0].toNat:Int)<224:=by omega
 have u2:(224:Int)≤(s[0].toNat:Int):=by omega
 have u3:(s[0].toNat:Int)<240:=by omega
 have HR2:Hid (∀m,1≤m→m<3→¬cN (byteN s m)→R=none):=r2
 have HR3:Hid (3≤s.size→(∀m,1≤m→m<3→cN (byteN s m))→((fun X=>(2048≤X∧(X<55296∨57344≤X))) (cF (byteN s 0-224) (byteN s) 2)→R=some (cF (byteN s 0-224) (byteN s) 2,3))∧(¬(fun X=>(2048≤X∧(X<55296∨57344≤X))) (cF (byteN s 0-224) (byteN s) 2)→R=none)):=r3
 have HCL:=hid hcl
 by_cases hsz:s.size<3
 ·obtain rfl:=r1 hsz
  have t5:(s.size:Int)<3:=by omega
  show Calls _ _ _ _ fun e w'=>e= .returned (.tuple #[.int .i64 0,.int .i64 0,.bool false])∧w'=w
  clear r1 r2 r3 hcl hb hb0
  go_enter Tryz.func212,Tryz.ntmps212
  go_wp2
  go_ret3
  exact⟨rfl,rfl⟩
 have t5:¬(s.size:Int)<3:=by omega
 have hc0:(s[0].toNat:Int)-224=((cF (byteN s 0-224) (byteN s) 0:Nat):Int):=by
  show _=((byteN s 0-224:Nat):Int)
  rw[byteN_get s 0 h0];omega
 have HC0:=hid hc0
 have HB:=hid hb
 clear r1 r2 r3 hcl hb hb0 hc0
 obtain⟨a,ha⟩:∃a,a=byteN s 0-224:=⟨_,rfl⟩
 rw[←ha] at HC0 HR3 HCL
 have HA0:=hid ha
 clear ha
 go_enter Tryz.func212,Tryz.ntmps212
 go_wp2
 go_loop [7,8] (fun c i=>∃j C:Nat,j<3∧i= .int .i64 (j+1:Nat)∧c= .int .i64 C∧Hid (C=cF a (byteN s) j)∧Hid (∀m,1≤m→m≤j→cN (byteN s m))) (fun _ i=>3-(RowKit.intOf i).toNat)
 case atStart=>exact⟨0,cF a (byteN s) 0,by omega,rfl,by rw[HC0.out],rfl,fun m h1 h2=>absurd h1 (by omega)⟩
 case round=>
  obtain⟨j,C,hj,rfl,rfl,HC,HM⟩:=hrel
  have hCl:C≤9000000:=by rw[HC.out];exact HCL.out j (by omega)
  by_cases hlt:j+1<3
  ·have hd:j+1<s.size:=by omega
   have d0:=s[j+1].toNat_lt
   have hbg:=byteN_get s (j+1) hd
   have HBG:=hid hbg
   clear hbg
   by_cases hcn:cN (byteN s (j+1))
   ·have hcn2:=hcn
    rw[HBG.out] at hcn2
    have d1:¬(s[j+1].toNat:Int)<128:=by have:=hcn2.1;omega
    have d2:¬(192:Int)≤(s[j+1].toNat:Int):=by have:=hcn2.2;omega
    have HC2:Hid (((C:Int)*64+(s[j+1].toNat:Int)-128)=((cF a (byteN s) (j+1):Nat):Int)):=by
     show _=((cF a (byteN s) j*64+(byteN s (j+1)-128):Nat):Int)
     rw[←HC.out,HBG.out];omega
    have HM2:Hid (∀m,1≤m→m≤j+1→cN (byteN s m)):=fun m h1 h2=>by
     rcases Nat.lt_or_ge j m with h|h
     ·obtain rfl:m=j+1:=by omega
      exact hcn
     ·exact HM.out m h1 h
    clear hcn hcn2
    go_wp2
    go_round
    case rel=>exact⟨j+1,cF a (byteN s) (j+1),by omega,by go_num,by rw[←HC2.out],rfl,HM2⟩
    case measure=>simp[RowKit.intOf];omega
   ·obtain rfl:R=none:=HR2.out (j+1) (by omega) hlt hcn
    have hcn2:¬(128≤s[j+1].toNat∧s[j+1].toNat<192):=by rw[←HBG.out];exact hcn
    clear hcn
    by_cases hx:s[j+1].toNat<128
    ·have d1:(s[j+1].toNat:Int)<128:=by omega
     clear hcn2 hx
     go_wp2
     go_ret3
     exact⟨rfl,rfl⟩
    ·have d1:¬(s[j+1].toNat:Int)<128:=by omega
     have d2:(192:Int)≤(s[j+1].toNat:Int):=by omega
     clear hcn2 hx
     go_wp2
     go_ret3
     exact⟨rfl,rfl⟩
  ·obtain rfl:j=2:=by omega
   have h3:=HR3.out (by omega) (fun m h1 h2=>HM.out m h1 (by omega))
   rw[←HC.out] at h3
   try simp only at h3
   have hCb:C≤65535:=by
    rw[HC.out]
    have ha:a≤15:=by rw[HA0.out];have:=HB.out;omega
    have q1:=(HM.out 1 (by omega) (by omega)).2
    have q2:=(HM.out 2 (by omega) (by omega)).2
    rw[cF2]
    omega
   obtain⟨h3,h4⟩:=h3
   by_cases e1:C<2048
   ·obtain rfl:R=none:=h4 (by omega)
    have v0:(C:Int)<2048:=by omega
    clear h3 h4 e1
    go_wp2
    go_ret3
    exact⟨rfl,rfl⟩
   by_cases e2:C<55296
   ·obtain rfl:R=some (C,3):=h3 (by omega)
    have v0:¬(C:Int)<2048:=by omega
    have v1:¬(1114111:Int)<(C:Int):=by omega
    have v2:¬(55296:Int)≤(C:Int):=by omega
    clear h3 h4 e1 e2
    go_wp2
    go_ret3
    exact⟨rfl,rfl⟩
   by_cases e3:C<57344
   ·obtain rfl:R=none:=h4 (by omega)
    have v0:¬(C:Int)<2048:=by omega
    have v1:¬(1114111:Int)<(C:Int):=by omega
    have v2:(55296:Int)≤(C:Int):=by omega
    have v3:(C:Int)<57344:=by omega
    clear h3 h4 e1 e2 e3
    go_wp2
    go_ret3
    exact⟨rfl,rfl⟩
   ·obtain rfl:R=some (C,3):=h3 (by omega)
    have v0:¬(C:Int)<2048:=by omega
    have v1:¬(1114111:Int)<(C:Int):=by omega
    have v2:(55296:Int)≤(C:Int):=by omega
    have v3:¬(C:Int)<57344:=by omega
    clear h3 h4 e1 e2 e3
    go_wp2
    go_ret3
    exact⟨rfl,rfl⟩
theorem rf_4 (s:ByteArray) (hb:240≤byteN s 0∧byteN s 0<245) (X:Nat) (hX:X=cF (byteN s 0-240) (byteN s) 3):
  (s.size<4→rfL s.data.toList=none)∧(∀m,1≤m→m<4→¬cN (byteN s m)→rfL s.data.toList=none)∧
  (4≤s.size→(∀m,1≤m→m<4→cN (byteN s m))→((65536≤X∧X≤1114111)→rfL s.data.toList=some (X,4))∧(¬(65536≤X∧X≤1114111)→rfL s.data.toList=none)):=by
 have hr:rfL s.data.toList=(if 4≤s.size∧cN (byteN s 1)∧cN (byteN s 2)∧cN (byteN s 3)∧65536≤X∧X≤1114111 then some (X,4) else none):=by
  rw[rfL_byte,hX]
  unfold rfN
  rw[if_neg (by omega),if_neg (by omega),if_neg (by omega),if_pos hb]
  rfl
 refine⟨fun h=>by rw[hr,if_neg (by omega)],fun m h1 h2 h3=> ?_,fun h1 h2=>⟨fun h3=> ?_,fun h3=> ?_⟩⟩
 ·rw[hr,if_neg]
  intro h4
  obtain rfl|rfl|rfl:m=1∨m=2∨m=3:=by omega
  all_goals first|exact h3 h4.2.1|exact h3 h4.2.2.1|exact h3 h4.2.2.2.1|exact h3 h4.2
 ·rw[hr,if_pos]
  exact⟨h1,h2 1 (by omega) (by omega),h2 2 (by omega) (by omega),h2 3 (by omega) (by omega),h3.1,h3.2⟩
 ·rw[hr,if_neg]
  intro h4
  exact h3 ⟨h4.2.2.2.2.1,h4.2.2.2.2.2⟩
theorem first_4 (s:ByteArray) (w:World) (hs:s.size≤9223372036854775807) (h0:0<s.size) (hb:240≤byteN s 0∧byteN s 0<245):
  Calls Tryz.prog 212 #[.string s] w fun e w'=>e= .returned (firstV (rfL s.data.toList))∧w'=w:=by
 obtain⟨r1,r2,r3⟩:=rf_4 s hb _ rfl
 obtain⟨R,hR⟩:∃R,R=rfL s.data.toList:=⟨_,rfl⟩
 rw[←hR] at r1 r2 r3 ⊢
 clear hR
 have hcl:=cF_le (byteN s 0-240) (byteN s) (by omega) (byteN_lt s)
 have hb0:=hb
 rw[byteN_get s 0 h0] at hb0
 have t0:=s[0].toNat_lt
 have t1:¬(s[0].toNat:Int)<128:=by omega
 have u0:(194:Int)≤(s[0].toNat:Int):=by omega
 have u1:¬(s[0].toNat:Int)<224:=by omega
 have u2:(224:Int)≤(s[0].toNat:Int):=by omega
 have u3:¬(s[0].toNat:Int)<240:=by omega
 have u4:(240:Int)≤(s[0].toNat:Int):=by omega
 have u5:(s[0].toNat:Int)<245:=by omega
 have HR2:Hid (∀m,1≤m→m<4→¬cN (byteN s m)→R=none):=r2
 have HR3:Hid (4≤s.size→(∀m,1≤m→m<4→cN (byteN s m))→((fun X=>(65536≤X∧X≤1114111)) (cF (byteN s 0-240) (byteN s) 3)→R=some (cF (byteN s 0-240) (byteN s) 3,4))∧(¬(fun X=>(65536≤X∧X≤1114111)) (cF (byteN s 0-240) (byteN s) 3)→R=none)):=r3
 have HCL:=hid hcl
 by_cases hsz:s.size<4
 ·obtain rfl:=r1 hsz
  have t5:(s.size:Int)<4:=by omega
  show Calls _ _ _ _ fun e w'=>e= .returned (.tuple #[.int .i64 0,.int .i64 0,.bool false])∧w'=w
  clear r1 r2 r3 hcl hb hb0
  go_enter Tryz.func212,Tryz.ntmps212
  go_wp2
  go_ret3
  exact⟨rfl,rfl⟩
 have t5:¬(s.size:Int)<4:=by omega
 have hc0:(s[0].toNat:Int)-240=((cF (byteN s 0-240) (byteN s) 0:Nat):Int):=by
  show _=((byteN s 0-240:Nat):Int)
  rw[byteN_get s 0 h0];omega
 have HC0:=hid hc0
 have HB:=hid hb
 clear r1 r2 r3 hcl hb hb0 hc0
 obtain⟨a,ha⟩:∃a,a=byteN s 0-240:=⟨_,rfl⟩
 rw[←ha] at HC0 HR3 HCL
 have HA0:=hid ha
 clear ha
 go_enter Tryz.func212,Tryz.ntmps212
 go_wp2
 go_loop [7,8] (fun c i=>∃j C:Nat,j<4∧i= .int .i64 (j+1:Nat)∧c= .int .i64 C∧Hid (C=cF a (byteN s) j)∧Hid (∀m,1≤m→m≤j→cN (byteN s m))) (fun _ i=>4-(RowKit.intOf i).toNat)
 case atStart=>exact⟨0,cF a (byteN s) 0,by omega,rfl,by rw[HC0.out],rfl,fun m h1 h2=>absurd h1 (by omega)⟩
 case round=>
  obtain⟨j,C,hj,rfl,rfl,HC,HM⟩:=hrel
  have hCl:C≤9000000:=by rw[HC.out];exact HCL.out j (by omega)
  by_cases hlt:j+1<4
  ·have hd:j+1<s.size:=by omega
   have d0:=s[j+1].toNat_lt
   have hbg:=byteN_get s (j+1) hd
   have HBG:=hid hbg
   clear hbg
   by_cases hcn:cN (byteN s (j+1))
   ·have hcn2:=hcn
    rw[HBG.out] at hcn2
    have d1:¬(s[j+1].toNat:Int)<128:=by have:=hcn2.1;omega
    have d2:¬(192:Int)≤(s[j+1].toNat:Int):=by have:=hcn2.2;omega
    have HC2:Hid (((C:Int)*64+(s[j+1].toNat:Int)-128)=((cF a (byteN s) (j+1):Nat):Int)):=by
     show _=((cF a (byteN s) j*64+(byteN s (j+1)-128):Nat):Int)
     rw[←HC.out,HBG.out];omega
    have HM2:Hid (∀m,1≤m→m≤j+1→cN (byteN s m)):=fun m h1 h2=>by
     rcases Nat.lt_or_ge j m with h|h
     ·obtain rfl:m=j+1:=by omega
      exact hcn
     ·exact HM.out m h1 h
    clear hcn hcn2
    go_wp2
    go_round
    case rel=>exact⟨j+1,cF a (byteN s) (j+1),by omega,by go_num,by rw[←HC2.out],rfl,HM2⟩
    case measure=>simp[RowKit.intOf];omega
   ·obtain rfl:R=none:=HR2.out (j+1) (by omega) hlt hcn
    have hcn2:¬(128≤s[j+1].toNat∧s[j+1].toNat<192):=by rw[←HBG.out];exact hcn
    clear hcn
    by_cases hx:s[j+1].toNat<128
    ·have d1:(s[j+1].toNat:Int)<128:=by omega
     clear hcn2 hx
     go_wp2
     go_ret3
     exact⟨rfl,rfl⟩
    ·have d1:¬(s[j+1].toNat:Int)<128:=by omega
     have d2:(192:Int)≤(s[j+1].toNat:Int):=by omega
     clear hcn2 hx
     go_wp2
     go_ret3
     exact⟨rfl,rfl⟩
  ·obtain rfl:j=3:=by omega
   have h3:=HR3.out (by omega) (fun m h1 h2=>HM.out m h1 (by omega))
   rw[←HC.out] at h3
   try simp only at h3
   have hCb:C≤2097151:=by
    rw[HC.out]
    have ha:a≤4:=by rw[HA0.out];have:=HB.out;omega
    have q1:=(HM.out 1 (by omega) (by omega)).2
    have q2:=(HM.out 2 (by omega) (by omega)).2
    have q3:=(HM.out 3 (by omega) (by omega)).2
    rw[cF3]
    omega
   obtain⟨h3,h4⟩:=h3
   by_cases e1:C<65536
   ·obtain rfl:R=none:=h4 (by omega)
    have v0:(C:Int)<65536:=by omega
    clear h3 h4 e1
    go_wp2
    go_ret3
    exact⟨rfl,rfl⟩
   by_cases e2:C≤1114111
   ·obtain rfl:R=some (C,4):=h3 (by omega)
    have v0:¬(C:Int)<65536:=by omega
    have v1:¬(1114111:Int)<(C:Int):=by omega
    have v2:(55296:Int)≤(C:Int):=by omega
    have v3:¬(C:Int)<57344:=by omega
    clear h3 h4 e1 e2
    go_wp2
    go_ret3
    exact⟨rfl,rfl⟩
   ·obtain rfl:R=none:=h4 (by omega)
    have v0:¬(C:Int)<65536:=by omega
    have v1:(1114111:Int)<(C:Int):=by omega
    clear h3 h4 e1 e2
    go_wp2
    go_ret3
    exact⟨rfl,rfl⟩
end
section
open Go.RowKit Go.Lib Go.Sort
set_option linter.unusedVariables false
theorem first_any (s:ByteArray) (w:World) (hs:s.size≤9223372036854775807) (h0:0<s.size):
  Calls Tryz.prog 212 #[.string s] w fun e w'=>e= .returned (firstV (rfL s.data.toList))∧w'=w:=by
 have hb:=byteN_lt s 0
 by_cases c0:byteN s 0<128
 ·exact first_low s w hs h0 c0
 by_cases c1:byteN s 0<194
 ·exact first_bad s w hs h0 (.inl ⟨by omega,c1⟩)
 by_cases c2:byteN s 0<224
 ·exact first_2 s w hs h0 ⟨by omega,c2⟩
 by_cases c3:byteN s 0<240
 ·exact first_3 s w hs h0 ⟨by omega,c3⟩
 by_cases c4:byteN s 0<245
 ·exact first_4 s w hs h0 ⟨by omega,c4⟩
 ·exact first_bad s w hs h0 (.inr (by omega))
theorem infoStr:(Tryz.prog.info? 9).map (fun i=>(i.zero,i.size,i.bytes))=some (some (.string ⟨#[]⟩),1,16):=by kernel_rfl
theorem cell1 (W:World) (u:Value) (e:TypeId) (j:Nat) (v:Value) (h:[u][j]? =some v):(W.alloc (.cells #[u] e)).cell? ((⟨W.heap.size,0,none⟩:Addr).add j)=some v:=by
 have hb:=heap_alloc_new W (.cells #[u] e)
 cases j with
 |zero=>
  have e2:(⟨W.heap.size,0,none⟩:Addr).add 0=⟨W.heap.size,0,none⟩:=rfl
  rw[e2,cell_of_row _ _ _ _ _ _ hb]
  simpa using h
 |succ j=>simp at h
def cntAdd (m:Nat):Option Nat→Option Nat
 |none=>none
 |some q=>some (q+m)
theorem cntAdd_step {l:List UInt8} (hl:l≠[]) (m:Nat) {c k:Nat} (h:rfL l=some (c,k)):cntAdd m (cnt l)=cntAdd (m+1) (cnt (l.drop k)):=by
 rw[cnt_step hl,h]
 simp only
 cases cnt (l.drop k) with
 |none=>rfl
 |some q=>show some (q+1+m)=some (q+(m+1));congr 1;omega
theorem cntAdd_none {l:List UInt8} (hl:l≠[]) (m:Nat) (h:rfL l=none):cntAdd m (cnt l)=none:=by
 rw[cnt_step hl,h];rfl
theorem drop_ext (s:ByteArray) (k:Nat):(s.extract k s.size).data.toList=s.data.toList.drop k:=by
 rw[ByteArray.data_extract,Array.toList_extract,List.extract_eq_take_drop]
 exact List.take_of_length_le (by simp)
def SpQ (r:Option Nat) (w:World) (e:Ending) (w':World):Prop:=match r with
 |none=>e= .returned (.tuple #[.slice none 0 0,.int .i64 60])∧Below w.heap.size w w'
 |some m=>∃A c,e= .returned (.tuple #[.slice A m c,.int .i64 0])∧Below w.heap.size w w'
theorem split6_any (s:ByteArray) (w:World) (hs:s.size≤1000000):
  Calls Tryz.prog 193 #[.string s] w fun e w'=>SpQ (cnt s.data.toList) w e w':=by
 obtain⟨R,hR⟩:∃R,R=cnt s.data.toList:=⟨_,rfl⟩
 rw[←hR]
 have HR:=hid hR
 clear hR
 obtain⟨i0,hi,hz0,hz1,hz2⟩:=info_parts infoStr
 go_enter Tryz.func193,Tryz.ntmps193
 go_wp2
 go_loopw [0,4] (fun t v wr=>∃T:ByteArray,∃m:Nat,∃xs:List Value,t= .string T∧T.size+m≤s.size∧wr.ownsRow w.heap.size 9 1 v m xs∧Below w.heap.size w wr∧Hid (R=cntAdd m (cnt T.data.toList))) (fun t _ _=>match t with| .string T=>T.size|_=>0)
 case atStart=>exact⟨s,0,[],rfl,by omega,World.ownsRow_nil _ _ _ _,Below.refl _ _,by
  show R=_
  rw[HR.out]
  cases cnt s.data.toList<;>rfl⟩
 case round=>
  obtain⟨T,m,xs,rfl,hm,hO,hB,HC⟩:=hrel
  have hTl:T.data.toList.length=T.size:=by simp
  by_cases h0:0<T.size
  ·have hne:T.data.toList≠[]:=fun e=>by rw[e] at hTl;simp at hTl;omega
   have hF:=first_any T wr (by omega) h0
   cases hr:rfL T.data.toList with
   |none=>
    rw[hr] at hF
    obtain rfl:R=none:=by rw[HC.out,cntAdd_none hne m hr]
    have HF:Hid (Calls Tryz.prog 212 #[.string T] wr fun e w'=>e= .returned (.tuple #[.int .i64 0,.int .i64 0,.bool false])∧w'=wr):=hF
    clear hF hr hne hTl hO
    go_wp2_with fail
    refine HF.out.mono ?_
    rintro e w1 ⟨rfl,rfl⟩
    go_wp2
    go_ret2
    exact⟨rfl,hB⟩
   | some p=>
    obtain⟨c,k⟩:=p
    rw[hr] at hF
    have hk:=rfL_width hne hr
    rw[hTl] at hk
    have HC2:Hid (R=cntAdd (m+1) (cnt (T.extract k T.size).data.toList)):=by
     show R=_
     rw[HC.out,cntAdd_step hne m hr,drop_ext]
    have HF:Hid (Calls Tryz.prog 212 #[.string T] wr fun e w'=>e= .returned (.tuple #[.int .i64 (c:Nat),.int .i64 (k:Nat),.bool true])∧w'=wr):=hF
    obtain⟨hk1,hk2⟩:=hk
    have b1:(0:Int)≤(k:Int):=by omega
    have b2:(k:Int)≤(T.size:Int):=by omega
    have hsz:=hB.size
    have hex:(T.extract k T.size).size=T.size-k:=by rw[ByteArray.size_extract];omega
    have HEX:=hid hex
    clear hF hr hne hTl hex
    go_wp2_with fail
    refine HF.out.mono ?_
    rintro e w1 ⟨rfl,rfl⟩
    go_wp2_with (at_builtin;refine wpList_append_own _ rfl _ _ 60 rfl w.heap.size 9 i0 (.string ⟨#[]⟩) 1 16 Tryz.underlying60 hi hz0 hz1 hz2 rfl (by decide) _ _ _ rfl (by exact hO.alloc _) ⟨w1.heap.size,0,none⟩ 1 1 [.string (T.extract 0 k)] rfl rfl (by exact cell1 _ _ _) (fun u hu=>by simp at hu;subst hu;rfl) (by unfold maxLen;omega) (by omega) (by simp;omega) ?_;intro v' w3 hown' hgrow _)
    go_roundw
    case rel=>exact⟨_,m+1,_,rfl,by rw[HEX.out];omega,hown',(hB.alloc (by omega) _).grown hgrow (by simp;omega) (fun i h=>(hO.lt i h).1),HC2⟩
    case measure=>show(T.extract k T.size).size<T.size;rw[HEX.out];omega
  ·have he:T.data.toList=[]:=by
    cases e:T.data.toList with
    |nil=>rfl
    |cons a l=>rw[e] at hTl;simp at hTl;omega
   obtain rfl:R=some m:=by rw[HC.out,he,cnt_nil];show some (0+m)=_;rw[Nat.zero_add]
   have hTs:T.size=0:=by omega
   obtain rfl:T=⟨#[]⟩:=bs_nil.1 he
   obtain⟨A,cc,rfl⟩:∃A cc,u4=Value.slice A m cc:=by
    rcases hO.2 with⟨rfl,rfl⟩|⟨g,cap,cur,rfl,_⟩
    ·exact⟨_,_,rfl⟩
    ·exact⟨_,_,rfl⟩
   clear hO hTl he hTs
   go_wp2
   go_ret2
   exact⟨A,cc,rfl,hB⟩
theorem reflen_ok (s:ByteArray) (m:Nat) (w:World) (hs:s.size≤1000000) (h:cnt s.data.toList=some m):
  Calls Tryz.prog 163 #[.string s] w fun e w'=>e= .returned (.tuple #[.int .i64 m,.int .i64 0])∧Below w.heap.size w w':=by
 have hS:=split6_any s w hs
 rw[h] at hS
 have HS:=hid hS
 clear hS h
 go_enter Tryz.func163,Tryz.ntmps163
 go_wp2_with fail
 refine HS.out.mono ?_
 rintro e w1 ⟨A,c,rfl,hB⟩
 go_wp2
 go_ret2
 exact⟨rfl,hB⟩
end
end
end Go.Proofs.YtkhmicndehlneaaGreatDoor
