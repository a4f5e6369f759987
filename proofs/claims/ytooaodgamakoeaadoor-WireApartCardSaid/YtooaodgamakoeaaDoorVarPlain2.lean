/- The plain law of lists of numbers as bytes: what is put is taken back, what is taken is put as it was. -/
import Derived.Test.YtooaodgamakoeaaDoorVarPlain
namespace Go.Proofs.YtooaodgamakoeaaDoor.Vr
open Go.Lib

/-- what numbers at the head of a text are -/
inductive LR where
  | ok (ns : List Nat) (rest : List UInt8)
  | err (e : Nat)
def takeN : Nat → List UInt8 → LR
  | 0, l => .ok [] l
  | k + 1, l => match take l with
    | .ok n r => match takeN k r with
      | .ok ns r' => .ok (n :: ns) r'
      | .err e => .err e
    | .err e => .err e
def LR.pre (ns : List Nat) : LR → LR
  | .ok ms r => .ok (ns ++ ms) r
  | .err e => .err e
theorem LR.pre_nil (x : LR) : LR.pre [] x = x := by cases x <;> rfl
theorem LR.pre_pre (a b : List Nat) (x : LR) : LR.pre a (LR.pre b x) = LR.pre (a ++ b) x := by cases x <;> simp [LR.pre]
theorem takeN_ok {k n : Nat} {l r : List UInt8} (h : take l = .ok n r) : takeN (k + 1) l = LR.pre [n] (takeN k r) := by
  simp only [takeN, h]
  cases takeN k r <;> rfl
theorem takeN_err {k e : Nat} {l : List UInt8} (h : take l = .err e) : takeN (k + 1) l = .err e := by
  simp only [takeN, h]
def takeNats (l : List UInt8) : LR := match take l with
  | .err e => .err e
  | .ok n r => if r.length < n then .err 10 else takeN n r
/-- the bytes of numbers, without how many there are -/
def listB (ns : List Nat) : List UInt8 := ns.flatMap uvarint
theorem takeN_put (ns : List Nat) (h : ∀ m ∈ ns, m < 9223372036854775808) (r : List UInt8) : takeN ns.length (listB ns ++ r) = .ok ns r := by
  induction ns with
  | nil => rfl
  | cons m ns ih =>
    have hm := h m (by simp)
    have hs := ih (fun x hx => h x (by simp [hx]))
    show takeN (ns.length + 1) _ = _
    rw [takeN_ok (n := m) (r := listB ns ++ r) (by
      show take (listB (m :: ns) ++ r) = _
      rw [show listB (m :: ns) = uvarint m ++ listB ns from by simp [listB], List.append_assoc]
      exact take_put m hm _), hs]
    rfl
theorem takeN_back : ∀ (k : Nat) (l : List UInt8) (ns : List Nat) (r : List UInt8), takeN k l = .ok ns r → l = listB ns ++ r ∧ ns.length = k ∧ ∀ m ∈ ns, m < 9223372036854775808
  | 0, l, ns, r, h => by
    simp only [takeN] at h
    cases h
    exact ⟨rfl, rfl, by simp⟩
  | k + 1, l, ns, r, h => by
    cases ht : take l with
    | err e => rw [takeN_err ht] at h; cases h
    | ok n r1 =>
      rw [takeN_ok ht] at h
      cases h2 : takeN k r1 with
      | err e => rw [h2] at h; cases h
      | ok ms r2 =>
        rw [h2] at h
        injection h with e1 e2
        subst e1 e2
        obtain ⟨h3, h4, h5⟩ := takeN_back k r1 ms r2 h2
        obtain ⟨h6, h7⟩ := take_ok ht
        refine ⟨by rw [h6, h3]; simp [listB], by simp [h4], ?_⟩
        intro m hm
        rcases List.mem_cons.1 hm with rfl | hm
        · exact h7
        · exact h5 m hm
theorem uv_pos (m : Nat) : 1 ≤ (uvarint m).length := uvarint_pos m
theorem listB_len (ns : List Nat) : ns.length ≤ (listB ns).length := by
  induction ns with
  | nil => simp
  | cons m ns ih => have := uv_pos m; simp only [listB, List.flatMap_cons, List.length_append, List.length_cons] at *; omega
theorem takeNats_put (ns : List Nat) (hn : ns.length < 9223372036854775808) (h : ∀ m ∈ ns, m < 9223372036854775808) (r : List UInt8) : takeNats (uvarint ns.length ++ listB ns ++ r) = .ok ns r := by
  unfold takeNats
  rw [List.append_assoc, take_put _ hn]
  simp only
  have := listB_len ns
  rw [if_neg (by rw [List.length_append]; omega)]
  exact takeN_put ns h r
theorem takeNats_back {l : List UInt8} {ns : List Nat} {r : List UInt8} (h : takeNats l = .ok ns r) : l = uvarint ns.length ++ listB ns ++ r ∧ ns.length ≤ l.length ∧ ∀ m ∈ ns, m < 9223372036854775808 := by
  unfold takeNats at h
  cases ht : take l with
  | err e => rw [ht] at h; cases h
  | ok n r1 =>
    rw [ht] at h
    simp only at h
    split at h
    · cases h
    · obtain ⟨h1, h2, h3⟩ := takeN_back n r1 ns r h
      obtain ⟨h4, _⟩ := take_ok ht
      have : l = uvarint ns.length ++ listB ns ++ r := by rw [h4, h2, h1, List.append_assoc]
      refine ⟨this, ?_, h3⟩
      rw [this, List.length_append, List.length_append]
      have := listB_len ns
      omega
end Go.Proofs.YtooaodgamakoeaaDoor.Vr
