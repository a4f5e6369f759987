/- The plain law of frames: frames put one behind the other are split as they were, and back. A table of 256 numbers. -/
import Derived.Test.YtjeiklgaiefeaaaFrmIter
namespace Go.Proofs.Ytjeiklgaiefeaaa
open Go.RowKit Go.Lib
set_option linter.unusedVariables false
theorem bs_ext {a b : ByteArray} (h : a.data.toList = b.data.toList) : a = b := ByteArray.ext (Array.toList_inj.1 h)
theorem bs_len (a : ByteArray) : a.data.toList.length = a.size := by simp
theorem bs_app (a b : ByteArray) : (a ++ b).data.toList = a.data.toList ++ b.data.toList := by rw [ByteArray.data_append, Array.toList_append]
theorem bs_pre (s : ByteArray) (k : Nat) : (s.extract 0 k).data.toList = s.data.toList.take k := by
  rw [ByteArray.data_extract, Array.toList_extract, List.extract_eq_take_drop, List.drop_zero, Nat.sub_zero]
theorem bs_suf (s : ByteArray) (k : Nat) : (s.extract k s.size).data.toList = s.data.toList.drop k := by rw [rest_of]
theorem bs_mid (s : ByteArray) (i j : Nat) : (s.extract i j).data.toList = (s.data.toList.drop i).take (j - i) := by
  rw [ByteArray.data_extract, Array.toList_extract, List.extract_eq_take_drop]
theorem mkD (l : List UInt8) : (⟨l.toArray⟩ : ByteArray).data.toList = l := rfl
theorem mkS (l : List UInt8) : (⟨l.toArray⟩ : ByteArray).size = l.length := by simp [ByteArray.size]
theorem frame_data (t : Nat → Nat) (x : ByteArray) : (frameS t x).data.toList = uvarint x.size ++ x.data.toList ++ (sumS t x).data.toList := by
  unfold frameS sumS; rw [bs_app, bs_app]; rfl
theorem sum_size (t : Nat → Nat) (x : ByteArray) : (sumS t x).size = 4 := rfl
theorem frame_size (t : Nat → Nat) (x : ByteArray) : (frameS t x).size = (putS x.size ++ x).size + 4 := by
  unfold frameS; rw [ByteArray.size_append]; rfl
/-- what Next takes is a frame -/
theorem next_bytes {t : Nat → Nat} {s x r : ByteArray} (h : nextS t s = .ok x r) : s = frameS t x ++ r ∧ x.size ≤ 1048576 := by
  unfold nextS at h
  cases ht : Vr.take s.data.toList with
  | err c => rw [ht] at h; cases h
  | ok n q =>
    rw [ht] at h
    simp only [nextR] at h
    obtain ⟨R, hR⟩ : ∃ R : ByteArray, R = ⟨q.toArray⟩ := ⟨_, rfl⟩
    rw [← hR] at h
    split at h
    · cases h
    · rename_i hn
      split at h
      · cases h
      · rename_i hsz
        split at h
        · rename_i hsum
          injection h with h1 h2
          have hx : x.size = n := by rw [← h1, ByteArray.size_extract]; omega
          refine ⟨bs_ext ?_, by omega⟩
          have h3 := (Vr.take_ok ht).1
          have hq : q = R.data.toList := by rw [hR]
          rw [bs_app, frame_data, h3, hx, hq, ← h2, bs_suf, ← h1, hsum, bs_pre, bs_mid]
          rw [List.append_assoc, List.append_assoc]
          congr 1
          rw [show n + 4 - n = 4 by omega, ← List.drop_drop, List.take_append_drop, List.take_append_drop]
        · cases h
/-- and a frame is taken -/
theorem next_frame (t : Nat → Nat) (x r : ByteArray) (hx : x.size ≤ 1048576) : nextS t (frameS t x ++ r) = .ok x r := by
  have h1 : (frameS t x ++ r).data.toList = uvarint x.size ++ (x ++ sumS t x ++ r).data.toList := by
    rw [bs_app, frame_data, bs_app, bs_app]; simp only [List.append_assoc]
  have ht := Vr.take_put x.size (by omega) (x ++ sumS t x ++ r).data.toList
  rw [← h1] at ht
  rw [next_go (t := t) ht]
  have e1 : (x ++ sumS t x ++ r).extract 0 x.size = x := bs_ext (by
    rw [bs_pre, bs_app, bs_app, List.append_assoc, List.take_append_of_le_length (by rw [bs_len]; omega), List.take_of_length_le (by rw [bs_len]; omega)])
  have e2 : (x ++ sumS t x ++ r).extract x.size (x.size + 4) = sumS t x := bs_ext (by
    rw [bs_mid, bs_app, bs_app, List.append_assoc, List.drop_append_of_le_length (by rw [bs_len]; omega), List.drop_of_length_le (by rw [bs_len]; omega), List.nil_append, show x.size + 4 - x.size = 4 by omega,
      List.take_append_of_le_length (by rw [bs_len, sum_size]; omega), List.take_of_length_le (by rw [bs_len, sum_size]; omega)])
  have hl : x.size + 4 = (x.data.toList ++ (sumS t x).data.toList).length := by rw [List.length_append, bs_len, bs_len, sum_size]
  have e3 : (x ++ sumS t x ++ r).extract (x.size + 4) (x ++ sumS t x ++ r).size = r := bs_ext (by
    rw [bs_suf, bs_app, bs_app, hl, List.drop_left])
  rw [next_0 (by omega) (by rw [ByteArray.size_append, ByteArray.size_append, sum_size]; omega) (by rw [e1, e2]), e1, e3]
/-- how many bytes frames have -/
def usedOf (l : List (ByteArray × Nat)) : Nat := (l.map fun p => (putS p.1.size ++ p.1).size + 4).sum
theorem usedOf_snoc (l : List (ByteArray × Nat)) (p : ByteArray × Nat) : usedOf (l ++ [p]) = usedOf l + ((putS p.1.size ++ p.1).size + 4) := by simp [usedOf]
theorem Frs.used {t : Nat → Nat} {s : ByteArray} {xs : List (ByteArray × Nat)} (h : Frs t s xs) : ∀ pre, pre <+: xs → (∀ p ∈ pre, p.2 = 0) → usedOf pre ≤ s.size := by
  induction h with
  | nil h => intro pre hp _; rw [List.prefix_nil.1 hp]; simp [usedOf]
  | @bad s c h h2 =>
    intro pre hp h0
    cases pre with
    | nil => simp [usedOf]
    | cons p pre =>
      have := List.cons_prefix_cons.1 hp
      have h3 := h0 p (by simp)
      rw [this.1] at h3
      exact absurd h3 (next_errne h2)
  | @ok s x r l h h2 h3 ih =>
    intro pre hp h0
    cases pre with
    | nil => simp [usedOf]
    | cons p pre =>
      have h4 := List.cons_prefix_cons.1 hp
      have h5 := ih pre h4.2 (fun q hq => h0 q (by simp [hq]))
      have h6 := (next_bytes h2).1
      have h7 : s.size = (frameS t x).size + r.size := by rw [h6, ByteArray.size_append]
      rw [frame_size] at h7
      have e : usedOf (p :: pre) = ((putS p.1.size ++ p.1).size + 4) + usedOf pre := by simp [usedOf]
      have e2 : (putS p.1.size ++ p.1).size = (putS x.size ++ x).size := by rw [h4.1]
      rw [e, e2]
      omega
theorem Frs.exists (t : Nat → Nat) : ∀ (n : Nat) (s : ByteArray), s.size ≤ n → ∃ xs, Frs t s xs
  | 0, s, h => ⟨[], .nil (by omega)⟩
  | n + 1, s, h => by
    by_cases h0 : s.size = 0
    · exact ⟨[], .nil h0⟩
    · cases hn : nextS t s with
      | err c => exact ⟨_, .bad h0 hn⟩
      | ok x r =>
        obtain ⟨l, hl⟩ := Frs.exists t n r (by have := next_less hn; omega)
        exact ⟨_, .ok h0 hn hl⟩
/-- only the last one may be an error -/
theorem Frs.shape {t : Nat → Nat} {s : ByteArray} {xs : List (ByteArray × Nat)} (h : Frs t s xs) : ∃ (l : List ByteArray) (c : Nat), xs = l.map (fun x => (x, 0)) ++ (if c = 0 then [] else [(⟨#[]⟩, c)]) := by
  induction h with
  | nil h => exact ⟨[], 0, rfl⟩
  | @bad s c h h2 => exact ⟨[], c, by rw [if_neg (next_errne h2)]; rfl⟩
  | ok h h2 h3 ih =>
    obtain ⟨l, c, hl⟩ := ih
    exact ⟨_ :: l, c, by rw [hl]; rfl⟩
end Go.Proofs.Ytjeiklgaiefeaaa
