/- The plain law of numbers as bytes: what is put is taken back; what is taken is put as it was; cut, it is too short. No condition beside the size of a number. -/
import Derived.Lib.Varint
namespace Go.Proofs.YtooaodgamakoeaaDoor.Vr
open Go.Lib

/-- what a number at the head of a text is: the number and what stands behind it, or an error -/
inductive TR where
  | ok (n : Nat) (rest : List UInt8)
  | err (e : Nat)

def takeF : List UInt8 → Nat → Nat → TR
  | [], _, _ => .err 10
  | b :: l, i, acc =>
    if 128 ≤ b.toNat then (if i = 8 then .err 11 else takeF l (i + 1) (acc + (b.toNat % 128) * 128 ^ i))
    else if b.toNat = 0 ∧ 0 < i then .err 11 else .ok (acc + b.toNat * 128 ^ i) l
def take (l : List UInt8) : TR := takeF l 0 0

theorem pow_split (i : Nat) (h : i < 8) : 128 ^ (9 - i) = 128 * 128 ^ (9 - (i + 1)) := by
  rw [show 9 - i = (9 - (i + 1)) + 1 by omega, Nat.pow_succ, Nat.mul_comm]
theorem sum_split (acc m i : Nat) : acc + (m % 128) * 128 ^ i + (m / 128) * 128 ^ (i + 1) = acc + m * 128 ^ i := by
  rw [Nat.pow_succ, ← Nat.mul_assoc, Nat.mul_comm (m / 128 * 128 ^ i) 128, ← Nat.mul_assoc, Nat.add_assoc, ← Nat.add_mul]
  rw [show m % 128 + 128 * (m / 128) = m from by omega]
theorem toNat_big (m : Nat) : (m % 128 + 128).toUInt8.toNat = m % 128 + 128 := by
  rw [Nat.toUInt8_eq, UInt8.toNat_ofNat', Nat.mod_eq_of_lt (by omega)]
theorem toNat_small (m : Nat) (h : m < 128) : m.toUInt8.toNat = m := by
  rw [Nat.toUInt8_eq, UInt8.toNat_ofNat', Nat.mod_eq_of_lt (by omega)]

theorem takeF_put (r : List UInt8) (m : Nat) : ∀ (i acc : Nat), i ≤ 8 → m < 128 ^ (9 - i) → (m = 0 → i = 0) → takeF (uvarint m ++ r) i acc = .ok (acc + m * 128 ^ i) r := by
  induction m using Nat.strongRecOn with
  | _ m ih =>
    intro i acc hi hm h0
    by_cases hs : m < 128
    · rw [uvarint_small hs]
      simp only [List.cons_append, List.nil_append, takeF]
      rw [toNat_small m hs, if_neg (by omega), if_neg (by omega)]
    · rw [uvarint_big (by omega)]
      simp only [List.cons_append, takeF]
      have h8 : i < 8 := by
        rcases Nat.lt_or_ge i 8 with h | h
        · exact h
        · exfalso
          obtain rfl : i = 8 := by omega
          simp at hm
          omega
      rw [toNat_big, if_pos (by omega), if_neg (by omega)]
      rw [pow_split i h8] at hm
      rw [show (m % 128 + 128) % 128 = m % 128 by omega]
      rw [ih (m / 128) (by omega) (i + 1) _ (by omega) (Nat.div_lt_of_lt_mul hm) (by omega), sum_split]
theorem takeF_ok (l : List UInt8) : ∀ (i acc n : Nat) (r : List UInt8), i ≤ 8 → takeF l i acc = .ok n r → ∃ m, l = uvarint m ++ r ∧ n = acc + m * 128 ^ i ∧ m < 128 ^ (9 - i) ∧ (m = 0 → i = 0) := by
  induction l with
  | nil => intro i acc n r _ h; simp [takeF] at h
  | cons b l ih =>
    intro i acc n r hi h
    have hb := UInt8.toNat_lt b
    simp only [takeF] at h
    by_cases h1 : 128 ≤ b.toNat
    · rw [if_pos h1] at h
      by_cases h2 : i = 8
      · rw [if_pos h2] at h; cases h
      · rw [if_neg h2] at h
        obtain ⟨m, rfl, rfl, hm, h0⟩ := ih (i + 1) _ n r (by omega) h
        have hm0 : m ≠ 0 := fun e => by have := h0 e; omega
        refine ⟨m * 128 + (b.toNat - 128), ?_, ?_, ?_, fun e => by omega⟩
        · rw [uvarint_big (x := m * 128 + (b.toNat - 128)) (by omega)]
          rw [show (m * 128 + (b.toNat - 128)) / 128 = m by omega, show (m * 128 + (b.toNat - 128)) % 128 + 128 = b.toNat by omega]
          simp
        · rw [← sum_split acc (m * 128 + (b.toNat - 128)) i]
          rw [show (m * 128 + (b.toNat - 128)) / 128 = m by omega, show (m * 128 + (b.toNat - 128)) % 128 = b.toNat % 128 by omega]
        · rw [pow_split i (by omega)]
          omega
    · rw [if_neg h1] at h
      by_cases h2 : b.toNat = 0 ∧ 0 < i
      · rw [if_pos h2] at h; cases h
      · rw [if_neg h2] at h
        injection h with h3 h4
        subst h4
        refine ⟨b.toNat, ?_, h3.symm, ?_, fun e => by omega⟩
        · rw [uvarint_small (by omega)]
          simp
        · have : 128 ^ 1 ≤ 128 ^ (9 - i) := Nat.pow_le_pow_right (by decide) (by omega)
          omega
theorem takeF_cut (m : Nat) : ∀ (i acc k : Nat), i ≤ 8 → m < 128 ^ (9 - i) → k < (uvarint m).length → takeF ((uvarint m).take k) i acc = .err 10 := by
  induction m using Nat.strongRecOn with
  | _ m ih =>
    intro i acc k hi hm hk
    cases k with
    | zero => rfl
    | succ k =>
    by_cases hs : m < 128
    · rw [uvarint_small hs] at hk
      simp at hk
    · rw [uvarint_big (by omega)] at hk ⊢
      simp only [List.take_succ_cons, takeF]
      have h8 : i < 8 := by
        rcases Nat.lt_or_ge i 8 with h | h
        · exact h
        · exfalso
          obtain rfl : i = 8 := by omega
          simp at hm
          omega
      rw [toNat_big, if_pos (by omega), if_neg (by omega)]
      rw [pow_split i h8] at hm
      exact ih (m / 128) (by omega) (i + 1) _ k (by omega) (Nat.div_lt_of_lt_mul hm) (by simpa using hk)

theorem take_put (m : Nat) (h : m < 9223372036854775808) (r : List UInt8) : take (uvarint m ++ r) = .ok m r := by
  have := takeF_put r m 0 0 (by omega) (by simpa using h) (fun _ => rfl)
  simpa [take] using this
theorem take_ok {l : List UInt8} {n : Nat} {r : List UInt8} (h : take l = .ok n r) : l = uvarint n ++ r ∧ n < 9223372036854775808 := by
  obtain ⟨m, h1, h2, h3, _⟩ := takeF_ok l 0 0 n r (by omega) h
  have e : n = m := by simpa using h2
  subst e
  exact ⟨h1, by simpa using h3⟩
theorem take_cut (m : Nat) (h : m < 9223372036854775808) (k : Nat) (hk : k < (uvarint m).length) : take ((uvarint m).take k) = .err 10 :=
  takeF_cut m 0 0 k (by omega) (by simpa using h) hk
theorem takeF_err (l : List UInt8) : ∀ (i acc e : Nat), takeF l i acc = .err e → e = 10 ∨ e = 11 := by
  induction l with
  | nil => intro i acc e h; simp [takeF] at h; omega
  | cons b l ih =>
    intro i acc e h
    simp only [takeF] at h
    split at h
    · split at h
      · injection h; omega
      · exact ih _ _ _ h
    · split at h
      · injection h; omega
      · cases h

/-- numbers with their signs -/
def zig (n : Int) : Nat := if 0 ≤ n then (2 * n).toNat else (-2 * n - 1).toNat
def zag (m : Nat) : Int := if m % 2 = 1 then -((m / 2 : Nat) : Int) - 1 else ((m / 2 : Nat) : Int)
theorem zag_zig (n : Int) : zag (zig n) = n := by
  unfold zag zig
  split <;> split <;> omega
theorem zig_zag (m : Nat) : zig (zag m) = m := by
  unfold zag zig
  split <;> split <;> omega
theorem zig_lt {n : Int} (h1 : -4611686018427387904 ≤ n) (h2 : n < 4611686018427387904) : zig n < 9223372036854775808 := by unfold zig; split <;> omega
theorem zag_range {m : Nat} (h : m < 9223372036854775808) : -4611686018427387904 ≤ zag m ∧ zag m < 4611686018427387904 := by unfold zag; split <;> omega
end Go.Proofs.YtooaodgamakoeaaDoor.Vr
