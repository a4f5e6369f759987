/- What the reference of TakeNats computes. Conditions: bounds on sizes. -/
import Derived.Test.YteedajnikfhpjaaGreatDoorVA
namespace Go.Proofs.YteedajnikfhpjaaGreatDoor
open Go.RowKit Go.Lib
set_option linter.unusedVariables false
theorem intsF_list (ns : List Nat) (i : Nat) (h : i < ns.length) : (ns.map fun m => Value.int .i64 (m : Nat))[i]? = some (intsF ns i) := by
  simp [intsF, h]
theorem row_of_own {w : World} {base e n : Nat} {v : Value} {ns : List Nat} (h : w.ownsRow base e 1 v n (ns.map fun m => Value.int .i64 (m : Nat))) :
    ∃ A cap, v = .slice A ns.length cap ∧ Row1 w w.heap.size A ns.length (intsF ns) := by
  have hl : n = ns.length := by have := own_len h; simpa using this
  subst hl
  rcases h.2 with ⟨rfl, h0⟩ | ⟨g, cap, cur, rfl, _⟩
  · have : ns = [] := by simpa using h0
    subst this
    exact ⟨none, 0, rfl, Row1.nil⟩
  · exact ⟨_, cap, rfl, Row1.of_own h (fun i hi => intsF_list ns i hi)⟩
/-- the same, and where the row is that holds them -/
def TnO (r : Vr.LR) (w : World) (e : Ending) (w' : World) : Prop := match r with
  | .ok ns r => ∃ A cap, e = .returned (.tuple #[.slice A ns.length cap, .string ⟨r.toArray⟩, .int .i64 0]) ∧ w'.ownsRow w.heap.size 3 1 (.slice A ns.length cap) ns.length (ns.map fun m => Value.int .i64 (m : Nat)) ∧ Below w.heap.size w w'
  | .err c => e = .returned (.tuple #[.slice none 0 0, .string ⟨#[]⟩, .int .i64 (c : Nat)]) ∧ Below w.heap.size w w'
theorem TnO_err {r : Vr.LR} {c : Nat} (h : r = .err c) {w w' : World} (hb : Below w.heap.size w w') : TnO r w (.returned (.tuple #[.slice none 0 0, .string ⟨#[]⟩, .int .i64 (c : Int)])) w' := by
  subst h; exact ⟨rfl, hb⟩
theorem TnO.q {r : Vr.LR} {w w' : World} {e : Ending} (h : TnO r w e w') : TnQ r w e w' := by
  cases r with
  | err c => exact h
  | ok ns r =>
    obtain ⟨A, cap, he, hO, hB⟩ := h
    obtain ⟨A2, cap2, hv, hR⟩ := row_of_own hO
    cases hv
    exact ⟨A, cap, he, hR, hB⟩
set_option maxRecDepth 100000 in
set_option maxHeartbeats 2000000 in
theorem reftakenats_own (s : ByteArray) (hs : s.size ≤ 1000000) (w : World) :
    Calls Tryz.prog 47 #[.string s] w fun e w' => TnO (Vr.takeNats s.data.toList) w e w' := by
  have hsm : Hid (s.size ≤ maxLen) := Lib.hid (by unfold maxLen; omega)
  have hsl : s.data.toList.length = s.size := by simp
  cases ht : Vr.take s.data.toList with
  | err c =>
    have HQ := Lib.hid (fun w' => @TnO_err _ c (takeNats_err ht) w w')
    have HT := Lib.hid (tkIs_err ht)
    have t1 : ((c : Int) != 0) = true := by rw [bne_iff_ne]; have := err_ne ht; omega
    generalize Vr.takeNats s.data.toList = ans at *
    clear ht hsl
    go_enter Tryz.func47, Tryz.ntmps47
    go_wp2_with fail
    refine (reftake_is s hsm.out 0 ⟨#[]⟩ c HT.out _).mono ?_
    rintro e w1 ⟨rfl, k, rfl⟩
    go_wp2
    go_ret3
    exact HQ.out _ (below_drewN' (Below.refl _ _) _)
  | ok n r =>
    have HT := Lib.hid (tkIs_ok ht)
    have hrl := take_le ht
    have hrs := size_mkB r
    obtain ⟨R, hR⟩ : ∃ R : ByteArray, R = ⟨r.toArray⟩ := ⟨_, rfl⟩
    rw [← hR] at HT hrs
    by_cases hn : r.length < n
    · have HQ := Lib.hid (fun w' => @TnO_err _ 10 (takeNats_short ht hn) w w')
      have t2 : (R.size : Int) < (n : Int) := by omega
      generalize Vr.takeNats s.data.toList = ans at *
      clear ht hsl hrl hR hrs
      go_enter Tryz.func47, Tryz.ntmps47
      go_wp2_with fail
      refine (reftake_is s hsm.out n R 0 HT.out _).mono ?_
      rintro e w1 ⟨rfl, k, rfl⟩
      go_wp2
      go_ret3
      exact HQ.out _ (below_drewN' (Below.refl _ _) _)
    · have HG := Lib.hid (takeNats_go ht hn)
      have t2 : ¬ (R.size : Int) < (n : Int) := by omega
      have t3 : decide (R.size < n) = false := by simp; omega
      have t4 : decide ((R.size : Int) < (n : Int)) = false := by simp; omega
      have hnl : n ≤ 1000000 := by omega
      have hRl : R.size ≤ 1000000 := by omega
      have HRe := Lib.hid hR
      obtain ⟨ans, hans⟩ : ∃ a, a = Vr.takeNats s.data.toList := ⟨_, rfl⟩
      rw [← hans] at HG ⊢
      clear ht hsl hrl hR hrs hn hans
      obtain ⟨i0, hi, hz0, hz1, hz2⟩ := info_parts infoI
      go_enter Tryz.func47, Tryz.ntmps47
      go_wp2_with fail
      refine (reftake_is s hsm.out n R 0 HT.out _).mono ?_
      rintro e w1 ⟨rfl, k, rfl⟩
      go_wp2
      go_loopw [6, 8, 9] (fun rs v i wr => ∃ ns : List Nat, ∃ T : ByteArray, ∃ m : Nat, ns.length ≤ n ∧ m = ns.length ∧ wr.ownsRow w.heap.size 3 1 v m (ns.map fun m => Value.int .i64 (m : Nat)) ∧ i = .int .i64 ns.length ∧ rs = .string T ∧ T.size ≤ 1000000 ∧ Hid (ans = Vr.LR.pre ns (Vr.takeN (n - ns.length) T.data.toList)) ∧ Below w.heap.size w wr) (fun _ _ i _ => n - (intOf i).toNat)
      case atStart =>
        refine ⟨[], R, 0, by simp, rfl, World.ownsRow_nil _ _ _ _, rfl, rfl, hRl, ?_, below_drewN' (Below.refl _ _) k⟩
        show ans = _
        rw [HG.out, HRe.out, Vr.LR.pre_nil]; rfl
      case round =>
        obtain ⟨ns, T, j, hk, hj, hO, rfl, rfl, hT, HA, hB⟩ := hrel
        rw [← hj] at hk ⊢
        by_cases hlt : j < n
        · have hTm : Hid (T.size ≤ maxLen) := Lib.hid (by unfold maxLen; omega)
          have hTl : T.data.toList.length = T.size := by simp
          cases ht : Vr.take T.data.toList with
          | err c =>
            have HQ := Lib.hid (fun w' => @TnO_err ans c (by rw [HA.out, ← hj, show n - j = (n - j - 1) + 1 by omega, Vr.takeN_err ht]; rfl) w w')
            have HT2 := Lib.hid (tkIs_err ht)
            have t1 : ((c : Int) != 0) = true := by rw [bne_iff_ne]; have := err_ne ht; omega
            have HJ := Lib.hid hj
            clear ht hTl hO hj
            go_wp2_with fail
            refine (reftake_is T hTm.out 0 ⟨#[]⟩ c HT2.out _).mono ?_
            rintro e w2 ⟨rfl, k2, rfl⟩
            go_wp2
            go_ret3
            exact HQ.out _ (below_drewN' hB _)
          | ok m r2 =>
            have hr2 := take_le ht
            have hs2 := size_mkB r2
            have HT2 := Lib.hid (tkIs_ok ht)
            have HN : Hid (ans = Vr.LR.pre (ns ++ [m]) (Vr.takeN (n - (j + 1)) r2)) := Lib.hid (by rw [HA.out, ← hj, show n - j = (n - (j + 1)) + 1 by omega, Vr.takeN_ok ht, Vr.LR.pre_pre])
            obtain ⟨R2, hR2⟩ : ∃ R : ByteArray, R = ⟨r2.toArray⟩ := ⟨_, rfl⟩
            rw [← hR2] at HT2 hs2
            have hR2s : R2.size ≤ 1000000 := by omega
            have HR2 := Lib.hid hR2
            have HJ := Lib.hid hj
            have hsz := hB.size
            clear ht hTl hr2 hs2 hR2 hj
            go_wp2_with fail
            refine (reftake_is T hTm.out m R2 0 HT2.out _).mono ?_
            rintro e w2 ⟨rfl, k2, rfl⟩
            go_wp2_with (at_builtin; refine wpList_append_own _ rfl _ _ 29 rfl w.heap.size 3 i0 (.int .i64 0) 1 8 Tryz.underlying29 hi hz0 hz1 hz2 rfl (by decide) _ _ _ rfl (by exact hO.alloc _) ⟨wr.heap.size, 0, none⟩ 1 1 [.int .i64 (m : Int)] rfl rfl (by exact cellOne wr _ _) (fun u hu => by simp at hu; subst hu; rfl) (by unfold maxLen; omega) (by omega) (by simp; omega) ?_; intro v' w1 hown' hgrow _)
            go_roundw
            case rel =>
              have hj := HJ.out
              refine ⟨ns ++ [m], R2, j + 1, by simp; omega, by simp; omega, by rw [List.map_append]; exact hown', by rw [List.length_append, ← hj]; go_num, rfl, hR2s, ?_, ((below_drewN' hB k2).alloc (by simpa using hsz) _).grown hgrow (by simp; omega) (fun i h => (hO.lt i h).1)⟩
              show ans = _
              rw [HN.out, HR2.out, List.length_append, ← hj]; rfl
            case measure => simp [intOf]; omega
        · obtain rfl : j = n := by omega
          have hQ : ans = .ok ns T.data.toList := by
            rw [HA.out, ← hj, Nat.sub_self]; simp [Vr.takeN, Vr.LR.pre]
          have HQ := Lib.hid hQ
          obtain ⟨A, cap, rfl, -⟩ := row_of_own hO
          have HO := Lib.hid (show wr.ownsRow w.heap.size 3 1 (.slice A ns.length cap) ns.length (ns.map fun m => Value.int .i64 (m : Nat)) from by have h := hO; rw [hj] at h; exact h)
          have HJ := Lib.hid hj
          clear hQ hj hO
          go_wp2
          go_ret3
          rw [HQ.out]
          exact ⟨A, cap, rfl, HO.out, hB⟩
theorem reftakenats_any (s : ByteArray) (hs : s.size ≤ 1000000) (w : World) :
    Calls Tryz.prog 47 #[.string s] w fun e w' => TnQ (Vr.takeNats s.data.toList) w e w' :=
  (reftakenats_own s hs w).mono fun _ _ h => h.q
end Go.Proofs.YteedajnikfhpjaaGreatDoor
