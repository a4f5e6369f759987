/- The table that the statements take, texts that are the same, and what any right program answers. No condition. -/
import Derived.Test.YtjeiklgaiefeaaaFrmRef
namespace Go.Proofs.Ytjeiklgaiefeaaa
open Go.RowKit Go.Lib
set_option linter.unusedVariables false
theorem tabIs : TabIs Crc.tab := ⟨fun _ h => Crc.tab_lt h⟩
theorem own_tab {w : World} {base : Nat} {v : Value} (h : w.ownsRow base 24 1 v 256 (tabL 256)) : ∃ A cap, v = .slice A 256 cap ∧ 256 ≤ cap ∧ TabRow w A Crc.tab := by
  rcases h.2 with ⟨_, h0⟩ | ⟨g, cap, cur, rfl, _, _, hc, _⟩
  · exact absurd h0 (by decide)
  · exact ⟨_, cap, rfl, hc, Row1.of_own h (fun i hi => by simp [tabL, hi])⟩
set_option maxRecDepth 100000 in
set_option maxHeartbeats 2000000 in
theorem table_f (w : World) : Calls Try.prog 49 #[.bool false] w fun e w' => ∃ A cap, e = .returned (.slice A 256 cap) ∧ TabRow w' A Crc.tab ∧ Below w.heap.size w w' := by
  go_enter Try.func49, Try.ntmps49
  go_wp2_with fail
  refine (reftable_any _).mono ?_
  rintro e w1 ⟨v, rfl, hO, hB⟩
  obtain ⟨A, cap, rfl, _, hT⟩ := own_tab hO
  have HT := Lib.hid hT
  clear hO hT
  go_wp2
  go_ret
  exact ⟨A, cap, rfl, HT.out, hB⟩
set_option maxRecDepth 100000 in
set_option maxHeartbeats 2000000 in
theorem table_t (w : World) : Calls Try.prog 49 #[.bool true] w fun e w' => ∃ A cap, e = .returned (.slice A 255 cap) ∧ Below w.heap.size w w' := by
  go_enter Try.func49, Try.ntmps49
  go_wp2_with fail
  refine (reftable_any _).mono ?_
  rintro e w1 ⟨v, rfl, hO, hB⟩
  obtain ⟨A, cap, rfl, hc, hT⟩ := own_tab hO
  clear hO hT
  have h1 : (255 : Int) ≤ (cap : Int) := by omega
  go_wp2
  go_ret
  exact ⟨A, cap, rfl, hB⟩
theorem crc_ab : crcOf Crc.tab [97, 98] = 2659403885 := by decide +kernel
theorem sum_ab : sumS Crc.tab ⟨#[97, 98]⟩ = ⟨#[158, 131, 72, 109]⟩ := by
  unfold sumS
  rw [show (⟨#[97, 98]⟩ : ByteArray).data.toList = [97, 98] from rfl, crc_ab]
  exact congrArg ByteArray.mk (by decide +kernel)
theorem frame_ab : frameS Crc.tab ⟨#[97, 98]⟩ = ⟨#[2, 97, 98, 158, 131, 72, 109]⟩ := by
  have h : frameS Crc.tab ⟨#[97, 98]⟩ = putS 2 ++ ⟨#[97, 98]⟩ ++ sumS Crc.tab ⟨#[97, 98]⟩ := rfl
  rw [h, sum_ab, putS_2]
  rfl
theorem frs_ab : Frs Crc.tab ⟨#[2, 97, 98, 158, 131, 72, 109, 2]⟩ [(⟨#[97, 98]⟩, 0), (⟨#[]⟩, 10)] := by
  refine .ok (by decide) (x := ⟨#[97, 98]⟩) (r := ⟨#[2]⟩) ?_ (.bad (by decide) ?_)
  · have h := next_frame Crc.tab ⟨#[97, 98]⟩ ⟨#[2]⟩ (by decide)
    rw [frame_ab] at h
    exact h
  · have h : Vr.take (⟨#[2]⟩ : ByteArray).data.toList = .ok 2 (⟨#[]⟩ : ByteArray).data.toList := rfl
    rw [next_go (t := Crc.tab) h, next_10 (by decide) (by decide)]
theorem next_ab : nextS Crc.tab ⟨#[2, 97, 98, 158, 131, 72, 120]⟩ = .err 30 := by
  have h : Vr.take (⟨#[2, 97, 98, 158, 131, 72, 120]⟩ : ByteArray).data.toList = .ok 2 (⟨#[97, 98, 158, 131, 72, 120]⟩ : ByteArray).data.toList := rfl
  rw [next_go (t := Crc.tab) h]
  refine next_30 (by decide) (by decide) ?_
  rw [show (⟨#[97, 98, 158, 131, 72, 120]⟩ : ByteArray).extract 0 2 = ⟨#[97, 98]⟩ from rfl, sum_ab, show (⟨#[97, 98, 158, 131, 72, 120]⟩ : ByteArray).extract 2 (2 + 4) = ⟨#[158, 131, 72, 120]⟩ from rfl]
  intro e
  have := congrArg (fun b : ByteArray => b.data.toList) e
  revert this
  decide
theorem split_ab {l : List (ByteArray × Nat)} {c : Nat} (h : SplitIs [(⟨#[97, 98]⟩, 0), (⟨#[]⟩, 10)] l c) : l = [(⟨#[97, 98]⟩, 0)] ∧ c = 10 := by
  obtain ⟨h0, h⟩ := h
  rcases h with ⟨_, rfl⟩ | ⟨_, y, h⟩
  · have := h0 (⟨#[]⟩, 10) (by simp)
    exact absurd this (by decide)
  · have h1 := congrArg List.reverse h
    simp at h1
    obtain ⟨⟨_, rfl⟩, h2⟩ := h1
    have h3 := congrArg List.reverse h2
    simp at h3
    exact ⟨h3.symm, rfl⟩
theorem used_ab : usedOf [(⟨#[97, 98]⟩, 0)] = 7 := by
  show ((putS 2 ++ ⟨#[97, 98]⟩).size + 4) + 0 = 7
  rw [ByteArray.size_append, putS_2]; rfl
theorem row_str {w : World} {base n : Nat} {v : Value} {l : List (ByteArray × Nat)} (h : w.ownsRow base 9 1 v n (strV l)) :
    ∃ A cap, v = .slice A l.length cap ∧ Row1 w w.heap.size A l.length (fun i => .string ((l.map Prod.fst).getD i ⟨#[]⟩)) := by
  have hl : n = l.length := by have := own_len h; simpa [strV] using this
  subst hl
  rcases h.2 with ⟨rfl, h0⟩ | ⟨g, cap, cur, rfl, _⟩
  · have : l = [] := by simpa [strV] using h0
    subst this
    exact ⟨none, 0, rfl, Row1.nil⟩
  · refine ⟨_, cap, rfl, Row1.of_own h (fun i hi => ?_)⟩
    simp [strV, hi]
set_option maxRecDepth 100000 in
set_option maxHeartbeats 2000000 in
theorem awake3_any (w : World) :
    Calls Try.prog 48 #[] w fun e w' => e = .returned (.bool true) ∧ Below w.heap.size w w' := by
  go_enter Try.func48, Try.ntmps48
  go_wp2_with fail
  refine (reftable_any _).mono ?_
  rintro e w1 ⟨v, rfl, hO, hB1⟩
  obtain ⟨A, cap, rfl, hc, hT⟩ := own_tab hO
  have HT := Lib.hid hT
  clear hO hT hc
  go_wp2_with fail
  refine (of_ok A cap Crc.tab tabIs _ (by decide) _ HT.out).mono ?_
  rw [frame_ab]
  rintro e w2 ⟨rfl, hB2⟩
  go_wp2_with fail
  refine (split_any A cap Crc.tab tabIs _ (by decide) _ frs_ab _ (TabRow.go HT.out hB2)).mono ?_
  rintro e w3 ⟨v3, l, c, rfl, hS, ⟨m, hO3⟩, hB3⟩
  obtain ⟨rfl, rfl⟩ := split_ab hS
  obtain ⟨A3, c3, rfl, hR3⟩ := row_str hO3
  rw [used_ab]
  have HR3 := Lib.hid hR3
  clear hS hO3 hR3
  go_wp2_with fail
  refine (next_any A cap Crc.tab tabIs _ (by decide) _ (TabRow.go (TabRow.go HT.out hB2) hB3)).mono ?_
  rw [show ((⟨#[2, 97, 98, 158, 131, 72, 109]⟩ : ByteArray).extract 0 6 ++ ⟨#[120]⟩) = ⟨#[2, 97, 98, 158, 131, 72, 120]⟩ from rfl, next_ab]
  rintro e w4 ⟨rfl, hB4⟩
  have hB := bt hB1 (bt hB2 (bt hB3 hB4))
  have hR4 := HR3.out.below hB4
  obtain ⟨ad, hA, _, hcl⟩ := hR4 0 (by simp)
  subst hA
  replace hcl : w4.cell? ad = some (.string ⟨#[97, 98]⟩) := hcl
  clear hB1 hB2 hB3 hB4 hR4
  go_wp2
  go_ret
  exact ⟨rfl, hB⟩
end Go.Proofs.Ytjeiklgaiefeaaa
