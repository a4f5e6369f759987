/- The walk of VarintLists: the call returns true, and writes nothing that was there. No condition. -/
import Derived.Test.YtjeiklgaiefeaaaVarLists2
namespace Go.Proofs.Ytjeiklgaiefeaaa
open Go.RowKit Go.Lib
set_option linter.unusedVariables false
theorem wf_of_i64 {zs : List Int} (h : ∀ n ∈ zs, (Lit.int .i64 n).wf = true) (i : Nat) : -9223372036854775808 ≤ zs.getD i 0 ∧ zs.getD i 0 < 9223372036854775808 := by
  by_cases hi : i < zs.length
  · have := wf_i64 (h _ (List.getElem_mem hi))
    rw [List.getD_eq_getElem?_getD, List.getElem?_eq_getElem hi]
    simp only [Option.getD_some]
    exact this
  · rw [List.getD_eq_getElem?_getD, List.getElem?_eq_none (by omega)]
    simp
theorem IsRowI.bounds {w : World} {a : Option Addr} {len cap : Nat} {zs : List Int} (h : IsRowI .i64 w a len cap zs) (i : Nat) : -9223372036854775808 ≤ zs.getD i 0 ∧ zs.getD i 0 < 9223372036854775808 := by
  refine wf_of_i64 ?_ i
  rcases h with ⟨_, _, _, rfl⟩ | ⟨_, _, _, _, _, _, hw⟩
  · simp
  · exact hw
theorem IsRowI.le {k : IntKind} {w : World} {a : Option Addr} {len cap : Nat} {zs : List Int} (h : IsRowI k w a len cap zs) : len ≤ 9223372036854775807 := by
  rcases h with ⟨_, h, _, _⟩ | ⟨_, _, h1, h2, _⟩
  · omega
  · unfold maxLen at h2; omega
/-- what Nats answers, by letters: a text and an error -/
structure NatsIs (A : Option Addr) (n cap : Nat) (f : Nat → Int) (S : ByteArray) (c : Nat) : Prop where
  go : ∀ w : World, Row1 w w.heap.size A n (fun i => .int .i64 (f i)) → Calls Try.prog 43 #[.slice A n cap] w fun e w' => e = .returned (.tuple #[.string S, .int .i64 c]) ∧ Below w.heap.size w w'
  ref : ∀ w : World, Row1 w w.heap.size A n (fun i => .int .i64 (f i)) → Calls Try.prog 44 #[.slice A n cap] w fun e w' => e = .returned (.tuple #[.string S, .int .i64 c]) ∧ Below w.heap.size w w'
theorem natsIs (A : Option Addr) (n cap : Nat) (f : Nat → Int) (hn : n ≤ 5000) (hf : ∀ i, -9223372036854775808 ≤ f i ∧ f i < 9223372036854775808) :
    (∃ S c, NatsIs A n cap f S c ∧ (c = 0 → S = natsS f n ∧ ∀ i, i < n → 0 ≤ f i) ∧ (c ≠ 0 → S = ⟨#[]⟩)) := by
  by_cases h : ∀ i, i < n → 0 ≤ f i
  · exact ⟨natsS f n, 0, ⟨fun w hR => nats_ok A n cap f hn (fun i hi => ⟨h i hi, (hf i).2⟩) w hR, fun w hR => refnats_ok A n cap f hn (fun i hi => ⟨h i hi, (hf i).2⟩) w hR⟩, fun _ => ⟨rfl, h⟩, fun h => absurd rfl h⟩
  · have hb : ∃ i, i < n ∧ f i < 0 := by
      rcases Classical.em (∃ i, i < n ∧ f i < 0) with h' | h'
      · exact h'
      · exact absurd (fun i hi => by
          rcases Int.lt_or_le (f i) 0 with hlt | hge
          · exact absurd ⟨i, hi, hlt⟩ h'
          · exact hge) h
    exact ⟨⟨#[]⟩, 1, ⟨fun w hR => nats_bad A n cap f hn (fun i hi => (hf i).2) hb w hR, fun w hR => refnats_bad A n cap f hn (fun i hi => (hf i).2) hb w hR⟩, fun h => absurd h (by decide), fun _ => rfl⟩

set_option maxRecDepth 100000 in
set_option maxHeartbeats 2000000 in
theorem law_VarintLists (a : Option Addr) (len cap : Nat) (zs : List Int) (s : ByteArray) (w : World) (h0 : IsRowI .i64 w a len cap zs) (hs : s.size ≤ maxLen) :
    Calls Try.prog 13 #[.slice a len cap, .string s] w fun e w' => e = .returned (.bool true) ∧ Below w.heap.size w w' := by
  have hlen := h0.le
  by_cases l1 : 1000 < len
  · have t1 : (1000 : Int) < (len : Int) := by omega
    clear h0
    go_enter Try.func13, Try.ntmps13
    go_wp2_with fail
    refine (awake1_any _).mono ?_
    rintro e w1 ⟨rfl, hB1⟩
    go_wp2
    go_ret
    exact ⟨rfl, hB1⟩
  have t1 : ¬ (1000 : Int) < (len : Int) := by omega
  by_cases l2 : 10000 < s.size
  · have t2 : (10000 : Int) < (s.size : Int) := by omega
    clear h0
    go_enter Try.func13, Try.ntmps13
    go_wp2_with fail
    refine (awake1_any _).mono ?_
    rintro e w1 ⟨rfl, hB1⟩
    go_wp2
    go_ret
    exact ⟨rfl, hB1⟩
  have t2 : ¬ (10000 : Int) < (s.size : Int) := by omega
  have hs' : Hid (s.size ≤ 1000000) := Lib.hid (by omega)
  obtain ⟨S, c, hN, -, -⟩ := natsIs a len cap (fun i => zs.getD i 0) (by omega) h0.bounds
  have HN := Lib.hid hN
  have HR := Lib.hid h0.row
  obtain ⟨ans, hans⟩ : ∃ a, a = Vr.takeNats s.data.toList := ⟨_, rfl⟩
  have HA := Lib.hid hans
  clear h0 hs hN hans
  cases ans with
  | err d =>
    go_enter Try.func13, Try.ntmps13
    go_wp2_with fail
    refine (HN.out.go _ HR.out).mono ?_
    rintro e w1 ⟨rfl, hB1⟩
    go_wp2_with fail
    refine (HN.out.ref _ ((HR.out.below hB1).more hB1.size)).mono ?_
    rintro e w2 ⟨rfl, hB2⟩
    go_wp2_with fail
    refine (takenats_any s hs'.out _).mono ?_
    rw [← HA.out]
    rintro e w3 ⟨rfl, hB3⟩
    go_wp2_with fail
    refine (reftakenats_any s hs'.out _).mono ?_
    rw [← HA.out]
    rintro e w4 ⟨rfl, hB4⟩
    go_wp2_with fail
    refine (awake1_any _).mono ?_
    rintro e w5 ⟨rfl, hB5⟩
    have hB := bt hB1 (bt hB2 (bt hB3 (bt hB4 hB5)))
    clear hB1 hB2 hB3 hB4 hB5
    go_wp2_with fail
    refine (same_yes none none 0 0 0 (fun _ => 0) (fun _ => 0) (by omega) (fun _ _ => rfl) _ Row1.nil Row1.nil).mono ?_
    rintro e w6 ⟨rfl, k, rfl⟩
    go_wp2
    go_ret
    exact ⟨rfl, below_drewN' hB _⟩
  | ok ns r =>
    have hnl : ns.length ≤ 9223372036854775807 := by
      have := (Vr.takeNats_back HA.out.symm).2.1
      have e : s.data.toList.length = s.size := by simp
      omega
    go_enter Try.func13, Try.ntmps13
    go_wp2_with fail
    refine (HN.out.go _ HR.out).mono ?_
    rintro e w1 ⟨rfl, hB1⟩
    go_wp2_with fail
    refine (HN.out.ref _ ((HR.out.below hB1).more hB1.size)).mono ?_
    rintro e w2 ⟨rfl, hB2⟩
    go_wp2_with fail
    refine (takenats_any s hs'.out _).mono ?_
    rw [← HA.out]
    rintro e w3 ⟨A1, c1, rfl, hR3, hB3⟩
    go_wp2_with fail
    refine (reftakenats_any s hs'.out _).mono ?_
    rw [← HA.out]
    rintro e w4 ⟨A2, c2, rfl, hR4, hB4⟩
    go_wp2_with fail
    refine (awake1_any _).mono ?_
    rintro e w5 ⟨rfl, hB5⟩
    have hB := bt hB1 (bt hB2 (bt hB3 (bt hB4 hB5)))
    have R1 := Lib.hid (((hR3.below hB4).more hB4.size).below hB5 |>.more hB5.size)
    have R2 := Lib.hid ((hR4.below hB5).more hB5.size)
    clear hB1 hB2 hB3 hB4 hB5 hR3 hR4
    go_wp2_with fail
    refine (same_yes A1 A2 ns.length c1 c2 (fun i => (ns.getD i 0 : Nat)) (fun i => (ns.getD i 0 : Nat)) hnl (fun _ _ => rfl) _ R1.out R2.out).mono ?_
    rintro e w6 ⟨rfl, k, rfl⟩
    go_wp2
    go_ret
    exact ⟨rfl, below_drewN' hB _⟩
end Go.Proofs.Ytjeiklgaiefeaaa
