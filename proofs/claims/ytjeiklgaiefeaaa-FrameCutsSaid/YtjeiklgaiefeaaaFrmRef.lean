/- What Split of the reference of frame computes, and the table that the statements take. Conditions: bounds on sizes. -/
import Derived.Test.YtjeiklgaiefeaaaFrmSplit
import Derived.Test.YtjeiklgaiefeaaaFrmRefNext
namespace Go.Proofs.Ytjeiklgaiefeaaa
open Go.RowKit Go.Lib
set_option linter.unusedVariables false
theorem next_nil {t : Nat → Nat} {s : ByteArray} (h : s.size = 0) : nextS t s = .err 10 := by
  have e : s.data.toList = [] := List.eq_nil_of_length_eq_zero (by rw [bs_len]; exact h)
  refine next_err ?_
  rw [e]; rfl
theorem next_size {t : Nat → Nat} {s x r : ByteArray} (h : nextS t s = .ok x r) : s.size = (putS x.size ++ x).size + 4 + r.size := by
  have h1 := (next_bytes h).1
  have h2 : s.size = (frameS t x ++ r).size := by rw [← h1]
  rw [ByteArray.size_append, frame_size] at h2
  exact h2
theorem strV_snoc (l : List (ByteArray × Nat)) (x : ByteArray) : strV (l ++ [(x, 0)]) = strV l ++ [.string x] := by simp [strV]
set_option maxRecDepth 100000 in
set_option maxHeartbeats 4000000 in
theorem refsplit_any (A : Option Addr) (cap : Nat) (t : Nat → Nat) (ht : TabIs t) (s : ByteArray) (hs : s.size ≤ 1000000) (xs : List (ByteArray × Nat)) (hF : Frs t s xs) (w : World) (hR : TabRow w A t) :
    Calls Try.prog 55 #[.slice A 256 cap, .string s] w (splitQ xs w) := by
  have HR := Lib.hid hR
  have HF := Lib.hid hF
  clear hR hF
  obtain ⟨i0, hi, hz0, hz1, hz2⟩ := info_parts info_str
  go_enter Try.func55, Try.ntmps55
  go_wp2
  go_loopw [7, 8] (fun v r wr => ∃ (pre rest : List (ByteArray × Nat)) (R : ByteArray) (m : Nat), r = .string R ∧ m ≤ 1000000 ∧ R.size ≤ s.size ∧ Hid (usedOf pre + R.size = s.size) ∧ Hid (xs = pre ++ rest) ∧ Hid (∀ p ∈ pre, p.2 = 0) ∧ Hid (Frs t R rest) ∧ wr.ownsRow w.heap.size 9 1 v m (strV pre) ∧ Below w.heap.size w wr)
    (fun _ r _ => match r with | .string R => R.size | _ => 0)
  case atStart => exact ⟨[], xs, s, 0, rfl, by omega, by omega, by simp [usedOf, Hid], rfl, fun p hp => by simp at hp, HF.out, World.ownsRow_nil _ _ _ _, Below.refl _ _⟩
  case round =>
    obtain ⟨pre, rest, R, m, rfl, hm, hRs, HU, HX, H0, HFr, hO, hB⟩ := hrel
    have hsz := hB.size
    have HRR := Lib.hid (TabRow.go HR.out hB)
    cases hn : nextS t R with
    | err c =>
      have hc0 := next_errne hn
      have HN := Lib.hid hn
      by_cases h0 : R.size = 0
      · have e10 : c = 10 := by have := next_nil (t := t) h0; rw [hn] at this; injection this
        subst e10
        have hu : (s.size : Int) = ((usedOf pre : Nat) : Int) := by have := HU.out; omega
        have hx : SplitIs xs pre 0 := by
          refine ⟨H0.out, .inl ⟨rfl, ?_⟩⟩
          have := HFr.out
          cases this with
          | nil _ => simpa using HX.out
          | bad h _ => exact absurd h0 h
          | ok h _ _ => exact absurd h0 h
        have HX2 := Lib.hid hx
        have HUU := Lib.hid hu
        have t2 : ((R.size : Int) == 0) = true := by rw [beq_iff_eq]; omega
        clear hn hc0 h0 hx hu
        go_wp2_with fail
        refine (refnext_any A cap t ht R (by omega) _ HRR.out).mono ?_
        rw [HN.out]
        rintro e w2 ⟨rfl, hb2⟩
        have hO2 := Lib.hid (own_grow hO hb2)
        clear hO
        go_wp2
        go_ret3
        exact ⟨_, pre, 0, ret3 rfl (int_val HUU.out) rfl, HX2.out, ⟨m, hO2.out⟩, hB.trans (hb2.mono hB.size)⟩
      · have hu : (s.size : Int) - (R.size : Int) = ((usedOf pre : Nat) : Int) := by have := HU.out; omega
        have hx : SplitIs xs pre c := by
          refine ⟨H0.out, .inr ⟨hc0, ⟨#[]⟩, ?_⟩⟩
          have := HFr.out
          cases this with
          | nil h => exact absurd h h0
          | @bad _ c' _ h => rw [hn] at h; injection h with h; subst h; exact HX.out
          | ok _ h _ => rw [hn] at h; cases h
        have HX2 := Lib.hid hx
        have HUU := Lib.hid hu
        have t1 : ((c : Int) != 0) = true := by rw [bne_iff_ne]; omega
        have t2 : ((R.size : Int) == 0) = false := by rw [beq_eq_false_iff_ne]; omega
        clear hn hc0 h0 hx hu
        by_cases h10 : c = 10
        · have t3 : ((c : Int) == 10) = true := by rw [beq_iff_eq]; omega
          clear h10
          go_wp2_with fail
          refine (refnext_any A cap t ht R (by omega) _ HRR.out).mono ?_
          rw [HN.out]
          rintro e w2 ⟨rfl, hb2⟩
          have hO2 := Lib.hid (own_grow hO hb2)
          clear hO
          go_wp2
          go_ret3
          exact ⟨_, pre, c, ret3 rfl (int_val HUU.out) rfl, HX2.out, ⟨m, hO2.out⟩, hB.trans (hb2.mono hB.size)⟩
        · have t3 : ((c : Int) == 10) = false := by rw [beq_eq_false_iff_ne]; omega
          clear h10
          go_wp2_with fail
          refine (refnext_any A cap t ht R (by omega) _ HRR.out).mono ?_
          rw [HN.out]
          rintro e w2 ⟨rfl, hb2⟩
          have hO2 := Lib.hid (own_grow hO hb2)
          clear hO
          go_wp2
          go_ret3
          exact ⟨_, pre, c, ret3 rfl (int_val HUU.out) rfl, HX2.out, ⟨m, hO2.out⟩, hB.trans (hb2.mono hB.size)⟩
    | ok x q =>
      have HN := Lib.hid hn
      have hql := next_less hn
      have hqs := next_size hn
      have hu2 : usedOf (pre ++ [(x, 0)]) + q.size = s.size := by rw [usedOf_snoc]; have := HU.out; show _ + ((putS x.size ++ x).size + 4) + _ = _; omega
      have hm2 : m + 1 ≤ 1000000 := by
        have h1 := own_len hO
        have h2 : (strV pre).length = pre.length := by simp [strV]
        have h3 := used_len (pre ++ [(x, 0)])
        rw [List.length_append] at h3
        have h4 : [(x, 0)].length = 1 := rfl
        omega
      obtain ⟨rest', hr', hF'⟩ : ∃ rest', xs = (pre ++ [(x, 0)]) ++ rest' ∧ Frs t q rest' := by
        have := HFr.out
        cases this with
        | nil h => rw [next_nil h] at hn; cases hn
        | bad _ h => rw [hn] at h; cases h
        | @ok _ x' r' l' _ h h3 =>
          rw [hn] at h
          injection h with e1 e2
          subst e1 e2
          exact ⟨l', by rw [HX.out]; simp, h3⟩
      have HU2 := Lib.hid hu2
      have HR' := Lib.hid hr'
      have HF' := Lib.hid hF'
      have H02 : Hid (∀ p ∈ pre ++ [(x, 0)], p.2 = 0) := fun p hp => by
        rcases List.mem_append.1 hp with h | h
        · exact H0.out p h
        · rw [List.mem_singleton.1 h]
      clear hn hqs hu2 hr' hF'
      go_wp2_with fail
      refine (refnext_any A cap t ht R (by omega) _ HRR.out).mono ?_
      rw [HN.out]
      rintro e w2 ⟨rfl, hb2⟩
      have hO2 := own_grow hO hb2
      have hB2 := hB.trans (hb2.mono hB.size)
      clear hO hB hb2
      have hsz2 := hB2.size
      go_wp2_with (at_builtin; refine wpList_append_own _ rfl _ _ 59 rfl w.heap.size 9 i0 (.string ByteArray.empty) 1 16 Try.underlying59 hi hz0 hz1 hz2 rfl (by decide) _ _ _ rfl (hO2.alloc _) ⟨w2.heap.size, 0, none⟩ 1 1 [.string x] rfl rfl (cellOne _ _ _) (fun u hu => by simp at hu; subst hu; rfl) (by unfold maxLen; omega) (by omega) (by simp; omega) ?_; intro v' w3 hown' hgrow _)
      go_roundw
      case rel => exact ⟨pre ++ [(x, 0)], rest', q, m + 1, rfl, hm2, by omega, HU2, HR', H02, HF', by rw [strV_snoc]; exact hown', (hB2.alloc (by omega) _).grown hgrow (by simp; omega) (fun i h => (hO2.lt i h).1)⟩
      case measure => exact hql
end Go.Proofs.Ytjeiklgaiefeaaa
