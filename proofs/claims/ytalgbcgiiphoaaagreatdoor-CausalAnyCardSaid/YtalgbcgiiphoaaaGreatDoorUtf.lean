/- Plain words of code points: the first one of a text by ranges of its bytes, and by the decoder. No condition. -/
import Derived.Test.YtalgbcgiiphoaaaGreatDoorPA
import Derived.Lib.ValidLaws
import Derived.Lib.DecodeNEq
import Derived.Lib.RuneCount
import Derived.Lib.MapLaws
namespace Go.Proofs.YtalgbcgiiphoaaaGreatDoor
open Go.Lib
set_option linter.unusedVariables false
def cN (b : Nat) : Prop := 128 ≤ b ∧ b < 192
instance (b : Nat) : Decidable (cN b) := by unfold cN; exact inferInstance
/-- the code point at a text's head and its bytes, by ranges: n bytes, the first four of them -/
def rfN (n b0 b1 b2 b3 : Nat) : Option (Nat × Nat) :=
  if b0 < 128 then some (b0, 1)
  else if 194 ≤ b0 ∧ b0 < 224 then (if 2 ≤ n ∧ cN b1 then some ((b0 - 192) * 64 + (b1 - 128), 2) else none)
  else if 224 ≤ b0 ∧ b0 < 240 then
    (if 3 ≤ n ∧ cN b1 ∧ cN b2 ∧ 2048 ≤ ((b0 - 224) * 64 + (b1 - 128)) * 64 + (b2 - 128) ∧ (((b0 - 224) * 64 + (b1 - 128)) * 64 + (b2 - 128) < 55296 ∨ 57344 ≤ ((b0 - 224) * 64 + (b1 - 128)) * 64 + (b2 - 128)) then some (((b0 - 224) * 64 + (b1 - 128)) * 64 + (b2 - 128), 3) else none)
  else if 240 ≤ b0 ∧ b0 < 245 then
    (if 4 ≤ n ∧ cN b1 ∧ cN b2 ∧ cN b3 ∧ 65536 ≤ (((b0 - 240) * 64 + (b1 - 128)) * 64 + (b2 - 128)) * 64 + (b3 - 128) ∧ (((b0 - 240) * 64 + (b1 - 128)) * 64 + (b2 - 128)) * 64 + (b3 - 128) ≤ 1114111 then some ((((b0 - 240) * 64 + (b1 - 128)) * 64 + (b2 - 128)) * 64 + (b3 - 128), 4) else none)
  else none
set_option maxRecDepth 100000 in
set_option maxHeartbeats 4000000 in
theorem rfN_eq (n b0 b1 b2 b3 : Nat) (h0 : b0 < 256) (h1 : b1 < 256) (h2 : b2 < 256) (h3 : b3 < 256) :
    (rfN n b0 b1 b2 b3 = none ∧ decodeN n b0 b1 b2 b3 = (65533, 1)) ∨ (rfN n b0 b1 b2 b3 = some (decodeN n b0 b1 b2 b3) ∧ decodeN n b0 b1 b2 b3 ≠ (65533, 1)) := by
  have key : ∀ (x y : Nat × Nat), x = y → y.2 ≠ 1 ∨ y.1 < 128 → ((some x : Option (Nat × Nat)) = none ∧ y = (65533, 1)) ∨ (some x = some y ∧ y ≠ (65533, 1)) := by
    intro x y e hy
    subst e
    refine .inr ⟨rfl, fun h => ?_⟩
    rw [h] at hy
    simp at hy
  by_cases c0 : b0 < 128
  · unfold rfN decodeN
    rw [if_pos c0, if_pos c0]
    exact key _ _ rfl (.inr c0)
  by_cases c1 : b0 < 194
  · left
    refine ⟨?_, decodeN_bad n b0 b1 b2 b3 (.inl ⟨by omega, c1⟩)⟩
    unfold rfN
    rw [if_neg c0, if_neg (by omega), if_neg (by omega), if_neg (by omega)]
  by_cases c5 : 245 ≤ b0
  · left
    refine ⟨?_, decodeN_bad n b0 b1 b2 b3 (.inr ⟨by omega, h0⟩)⟩
    unfold rfN
    rw [if_neg c0, if_neg (by omega), if_neg (by omega), if_neg (by omega)]
  unfold rfN decodeN cN
  rw [if_neg c0, if_neg c0]
  repeat' split
  all_goals first
    | (exfalso; omega)
    | exact .inl ⟨rfl, rfl⟩
    | exact key _ _ (by apply Prod.ext <;> simp only <;> omega) (.inl (by simp))
/-- of a text -/
def rfL (l : List UInt8) : Option (Nat × Nat) := rfN l.length (l.getD 0 0).toNat (l.getD 1 0).toNat (l.getD 2 0).toNat (l.getD 3 0).toNat
theorem rfL_eq (l : List UInt8) : (rfL l = none ∧ decodeL l = (65533, 1)) ∨ (rfL l = some (decodeL l) ∧ decodeL l ≠ (65533, 1)) := by
  rw [decodeL_N]
  exact rfN_eq _ _ _ _ _ (UInt8.toNat_lt _) (UInt8.toNat_lt _) (UInt8.toNat_lt _) (UInt8.toNat_lt _)
/-- how many code points: none, if it is no text of code points -/
def cntF : Nat → List UInt8 → Option Nat
  | 0, _ => some 0
  | f + 1, l => if l = [] then some 0 else match rfL l with
    | none => none
    | some (_, k) => match cntF f (l.drop k) with
      | none => none
      | some m => some (m + 1)
theorem rfL_width {l : List UInt8} {c k : Nat} (hl : l ≠ []) (h : rfL l = some (c, k)) : 1 ≤ k ∧ k ≤ l.length := by
  rcases rfL_eq l with ⟨h1, _⟩ | ⟨h1, _⟩
  · rw [h1] at h; cases h
  · rw [h1] at h
    injection h with h
    have := decodeL_width l
    have h2 := decodeL_le l hl
    rw [h] at this h2
    exact ⟨this, h2⟩
theorem cntF_fuel : ∀ (n m : Nat) (l : List UInt8), l.length ≤ n → l.length ≤ m → cntF n l = cntF m l
  | 0, m, l, hn, _ => by
    obtain rfl := List.eq_nil_of_length_eq_zero (Nat.le_zero.1 hn)
    cases m <;> simp [cntF]
  | n + 1, 0, l, _, hm => by
    obtain rfl := List.eq_nil_of_length_eq_zero (Nat.le_zero.1 hm)
    simp [cntF]
  | n + 1, m + 1, l, hn, hm => by
    simp only [cntF]
    by_cases hl : l = []
    · rw [if_pos hl, if_pos hl]
    · rw [if_neg hl, if_neg hl]
      cases h : rfL l with
      | none => rfl
      | some p =>
        obtain ⟨c, k⟩ := p
        have := rfL_width hl h
        simp only
        rw [cntF_fuel n m (l.drop k) (by rw [List.length_drop]; omega) (by rw [List.length_drop]; omega)]
def cnt (l : List UInt8) : Option Nat := cntF l.length l
theorem cnt_nil : cnt [] = some 0 := rfl
theorem cnt_step {l : List UInt8} (hl : l ≠ []) : cnt l = match rfL l with
    | none => none
    | some (_, k) => match cnt (l.drop k) with
      | none => none
      | some m => some (m + 1) := by
  have hp : 0 < l.length := List.length_pos_iff.2 hl
  obtain ⟨n, hn⟩ : ∃ n, l.length = n + 1 := ⟨l.length - 1, by omega⟩
  unfold cnt
  rw [hn]
  simp only [cntF, if_neg hl]
  cases h : rfL l with
  | none => rfl
  | some p =>
    obtain ⟨c, k⟩ := p
    have := rfL_width hl h
    simp only
    rw [cntF_fuel n (l.drop k).length (l.drop k) (by rw [List.length_drop]; omega) (by omega)]
theorem decode_drop (s : ByteArray) (pos : Nat) : Utf8.decode s pos = decodeL (s.data.toList.drop pos) := by
  rw [decode_at, decodeL_N]
  have hl : s.data.toList.length = s.size := by simp
  have g : ∀ i, (s.get! (pos + i)) = (s.data.toList.drop pos).getD i 0 := fun i => by
    rw [List.getD_eq_getElem?_getD, List.getElem?_drop]
    cases s with
    | mk d =>
      show d[pos + i]! = _
      rw [getElem!_def, ← Array.getElem?_toList]
      cases d.toList[pos + i]? <;> rfl
  rw [← g 0, ← g 1, ← g 2, ← g 3, List.length_drop, hl]
  rfl
/-- the library's words say the same -/
theorem cnt_lib (s : ByteArray) : ∀ (f pos : Nat), pos ≤ s.size → s.size - pos ≤ f →
    (validD (s.data.toList.drop pos) = (cnt (s.data.toList.drop pos)).isSome) ∧ ∀ m, cnt (s.data.toList.drop pos) = some m → runeCountFrom s f pos = m
  | f, pos, hp, hf => by
    have hl : s.data.toList.length = s.size := by simp
    by_cases he : pos = s.size
    · have e : s.data.toList.drop pos = [] := List.drop_of_length_le (by omega)
      rw [e, cnt_nil]
      refine ⟨validD_nil, fun m hm => ?_⟩
      injection hm with hm
      subst hm
      exact runeCountFrom_end s f pos (by omega)
    · have hne : s.data.toList.drop pos ≠ [] := fun e => by
        have := congrArg List.length e
        rw [List.length_drop, hl] at this
        simp at this; omega
      cases f with
      | zero => omega
      | succ f =>
      rw [validD_step _ hne, cnt_step hne]
      have hd := decode_drop s pos
      rcases rfL_eq (s.data.toList.drop pos) with ⟨h1, h2⟩ | ⟨h1, h2⟩
      · rw [h1, h2]
        exact ⟨rfl, fun m hm => by cases hm⟩
      · rw [h1]
        have hk : 1 ≤ (decodeL (s.data.toList.drop pos)).2 ∧ (decodeL (s.data.toList.drop pos)).2 ≤ s.size - pos := by
          have h3 := rfL_width hne h1
          rwa [List.length_drop, hl] at h3
        have ih := cnt_lib s f (pos + (decodeL (s.data.toList.drop pos)).2) (by omega) (by omega)
        rw [← List.drop_drop] at ih
        have hnb : ¬ ((decodeL (s.data.toList.drop pos)).1 = 65533 ∧ (decodeL (s.data.toList.drop pos)).2 = 1) := fun h => h2 (Prod.ext h.1 h.2)
        rw [if_neg hnb, ih.1]
        simp only
        refine ⟨?_, fun m hm => ?_⟩
        · cases cnt (List.drop (decodeL (s.data.toList.drop pos)).2 (s.data.toList.drop pos)) <;> rfl
        · cases hc : cnt (List.drop (decodeL (s.data.toList.drop pos)).2 (s.data.toList.drop pos)) with
          | none => rw [hc] at hm; cases hm
          | some q =>
            rw [hc] at hm
            injection hm with hm
            have h3 := ih.2 q hc
            unfold runeCountFrom
            rw [if_pos (by omega), hd, h3]
            omega
theorem cnt_valid (s : ByteArray) : validD s.data.toList = (cnt s.data.toList).isSome := by
  have := (cnt_lib s s.size 0 (by omega) (by omega)).1
  simpa using this
theorem cnt_count {s : ByteArray} {m : Nat} (h : cnt s.data.toList = some m) : runeCount s = m := by
  have := (cnt_lib s s.size 0 (by omega) (by omega)).2 m
  simp only [List.drop_zero] at this
  exact this h
end Go.Proofs.YtalgbcgiiphoaaaGreatDoor
