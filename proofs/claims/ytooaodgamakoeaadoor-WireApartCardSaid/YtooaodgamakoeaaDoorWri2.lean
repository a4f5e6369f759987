/- How wire's writer puts numbers and ids. Conditions: lengths in reach. -/
import Derived.Test.YtooaodgamakoeaaDoorWri
namespace Go.Proofs.YtooaodgamakoeaaDoor
open Go.RowKit Go.Lib Go.Sort
set_option linter.unusedVariables false
theorem natv_any (x : Int) (h : x < 9223372036854775808) (w : World) :
    Calls Tryd.prog 75 #[.int .i64 x] w fun e w' => ∃ c : Int, e = .returned (.tuple #[.string ⟨(natZ x).toArray⟩, .int .i64 c]) ∧ Below w.heap.size w w' := by
  by_cases h0 : 0 ≤ x
  · refine (nat_ok x h0 h w).mono ?_
    rintro e w' ⟨rfl, hB⟩
    exact ⟨0, by rw [natZ_of h0]; rfl, hB⟩
  · refine (nat_bad x (by omega) w).mono ?_
    rintro e w' ⟨rfl, rfl⟩
    refine ⟨1, ?_, Below.refl _ _⟩
    unfold natZ
    rw [if_pos (by omega)]
def intsA (xs : List Int) : Array Value := (xs.map (Value.int .i64)).toArray
set_option maxRecDepth 100000 in
set_option maxHeartbeats 4000000 in
theorem wnats_any (B b : Nat) (l : List UInt8) (g : Nat) (xs : List Int) (cap : Nat) (w : World) (hx : ∀ x ∈ xs, x < 9223372036854775808) (hl : l.length + 10 * xs.length ≤ 140737488355328) (hn : xs.length ≤ 100) (hW : Wrt w B b l) (hg : w.heap[g]? = some (.cells (intsA xs) 3 (0, 0))) (hgb : g ≠ b) :
    Calls Tryd.prog 44 #[.pointer (some ⟨b, 0, none⟩), .slice (some ⟨g, 0, none⟩) xs.length cap] w fun e w' => e = .returned (.tuple #[]) ∧ WrQ B b (l ++ xs.flatMap natZ) w w' := by
  have HW := Lib.hid (WrQ.refl hW)
  have HX := Lib.hid hx
  have HG := Lib.hid hg
  have hpt := hW.pt
  clear hW hx hg
  obtain ⟨n, hnn⟩ : ∃ n, n = xs.length := ⟨_, rfl⟩
  rw [← hnn] at hl hn ⊢
  have HN := Lib.hid hnn
  clear hnn
  go_enter Tryd.func44, Tryd.ntmps44
  go_wp2
  go_loopw [10] (fun i wr => ∃ k : Nat, k ≤ n ∧ i = .int .i64 k ∧ Hid (WrQ B b (l ++ (xs.take k).flatMap natZ) w wr)) (fun i _ => n - (RowKit.intOf i).toNat)
  case atStart => exact ⟨0, by omega, rfl, Lib.hid (by rw [List.take_zero, List.flatMap_nil, List.append_nil]; exact HW.out)⟩
  case round =>
    obtain ⟨k, hk, rfl, HQ⟩ := hrel
    by_cases hlt : k < n
    · have hkx : k < xs.length := by have := HN.out; omega
      have hgr := HQ.out.2.2 g _ HG.out (by intro e; cases e; exact hgb rfl) (by intro c fz e; injection e with _ e _; exact absurd e (by decide))
      obtain ⟨x, hxe⟩ : ∃ x, x = xs[k] := ⟨_, rfl⟩
      have hc : wr.cell? ⟨g, k, none⟩ = some (.int .i64 x) := by
        rw [cell_of_row _ _ _ _ _ _ hgr, hxe]
        simp [intsA, hkx]
      have hxb := HX.out x (by rw [hxe]; exact List.getElem_mem _)
      have hzl : (natZ x).length ≤ 10 := natZ_le hxb
      have HZL : Hid ((⟨(natZ x).toArray⟩ : ByteArray).size = (natZ x).length) := Lib.hid (by simp [ByteArray.size])
      have hpl : (l ++ (xs.take k).flatMap natZ).length ≤ l.length + 10 * k := by
        have h1 := flat_le (z := natZ) (c := 10) (l := xs.take k) fun y hy => natZ_le (HX.out y (List.mem_of_mem_take hy))
        have h2 : (xs.take k).length ≤ k := List.length_take_le _ _
        have h3 : 10 * (xs.take k).length ≤ 10 * k := Nat.mul_le_mul_left _ h2
        rw [List.length_append]; omega
      have HT : Hid ((l ++ (xs.take k).flatMap natZ) ++ natZ x = l ++ (xs.take (k + 1)).flatMap natZ) := by
        show _ = _
        rw [List.take_succ_eq_append_getElem hkx, List.flatMap_append, List.flatMap_singleton, hxe, List.append_assoc]
      have hC := natv_any x hxb
      clear hxe hgr hkx
      obtain ⟨P, hP⟩ : ∃ P, P = l ++ (xs.take k).flatMap natZ := ⟨_, rfl⟩
      rw [← hP] at hpl
      have HP := Lib.hid hP
      have HCC := Lib.hid hC
      clear hP hC
      go_wp2_with fail
      refine (HCC.out _).mono ?_
      rintro e w1 ⟨c, rfl, hB1⟩
      have HQ1 := Lib.hid ((show WrQ B b P w wr by rw [HP.out]; exact HQ.out).below hB1)
      clear hB1
      go_wp2_with fail
      refine (wstr_any B b P _ w1 HQ1.out.1 (by rw [HZL.out]; omega) (by have := HQ1.out.1.pt; omega)).mono ?_
      rintro e w2 ⟨rfl, hq2⟩
      have HQ2 := Lib.hid (HQ1.out.trans hq2)
      clear hq2
      go_wp2
      go_roundw
      case rel => exact ⟨k + 1, by omega, by go_num, Lib.hid (by rw [← HT.out, ← HP.out]; exact HQ2.out)⟩
      case measure => simp [RowKit.intOf]; omega
    · obtain rfl : k = n := by omega
      go_wp2
      go_end0
      exact ⟨rfl, by rw [HN.out, List.take_length] at HQ; exact HQ⟩
set_option maxRecDepth 100000 in
set_option maxHeartbeats 4000000 in
theorem wid_any (B b : Nat) (l : List UInt8) (x : Gid) (w : World) (hx : x.s.t < 9223372036854775808 ∧ x.s.r < 9223372036854775808 ∧ x.i < 9223372036854775808) (hl : l.length + 30 ≤ 140737488355328) (hW : Wrt w B b l) :
    Calls Tryd.prog 78 #[.pointer (some ⟨b, 0, none⟩), idV x] w fun e w' => e = .returned (.tuple #[]) ∧ WrQ B b (l ++ idZ x) w w' := by
  obtain ⟨⟨t, r⟩, i⟩ := x
  show Calls _ _ #[.pointer (some ⟨b, 0, none⟩), .agg #[.int .i64 t, .int .i64 r, .int .i64 i]] w _
  have hpt := hW.pt
  have HQ := Lib.hid (((WrQ.refl hW).alloc (by omega) (.cells #[.int .i64 t, .int .i64 r, .int .i64 i] 27)).alloc (by simp; omega) (.cells (intsA [t, r, i]) 3))
  have HG := Lib.hid (heap_alloc_newC (n := w.heap.size + 1) (w.alloc (.cells #[.int .i64 t, .int .i64 r, .int .i64 i] 27)) (.cells (intsA [t, r, i]) 3) (by simp))
  have HX := Lib.hid hx
  clear hW hx
  go_enter Tryd.func78, Tryd.ntmps78
  go_wp2_with fail
  refine (wnats_any B b l (w.heap.size + 1) [t, r, i] 3 _ (by have := HX.out; simp only [List.mem_cons, List.not_mem_nil, or_false]; rintro x (rfl | rfl | rfl); exact this.1; exact this.2.1; exact this.2.2) (by simp; omega) (by simp) HQ.out.1 HG.out (by omega)).mono ?_
  rintro e w' ⟨rfl, hq⟩
  have HQ2 := Lib.hid (HQ.out.trans hq)
  clear hq
  go_wp2
  go_end0
  refine ⟨rfl, ?_⟩
  have := HQ2.out
  have e : idZ ⟨⟨t, r⟩, i⟩ = [t, r, i].flatMap natZ := by simp [idZ, List.append_assoc]
  rw [e]
  exact this
end Go.Proofs.YtooaodgamakoeaaDoor
