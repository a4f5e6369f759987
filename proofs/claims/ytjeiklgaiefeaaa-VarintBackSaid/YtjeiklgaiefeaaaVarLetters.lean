/- Contracts by letters, for VarintBack and VarintAgain. Texts within the form's own reach. -/
import Derived.Test.YtjeiklgaiefeaaaVarLLaws
namespace Go.Proofs.Ytjeiklgaiefeaaa
open Go.RowKit Go.Lib
set_option linter.unusedVariables false
set_option maxRecDepth 100000 in
set_option maxHeartbeats 2000000 in
theorem takenats_big (s : ByteArray) (hs : s.size ≤ 281474976710656) (hcn : ∀ n r, Vr.take s.data.toList = .ok n r → n ≤ r.length → n ≤ 1000000) (w : World) :
    Calls Try.prog 45 #[.string s] w fun e w' => TnQ (Vr.takeNats s.data.toList) w e w' := by
  have hsm : Hid (s.size ≤ maxLen) := Lib.hid (by unfold maxLen; omega)
  have hsl : s.data.toList.length = s.size := by simp
  cases ht : Vr.take s.data.toList with
  | err c =>
    have HQ := Lib.hid (fun w' => @TnQ_err _ c (takeNats_err ht) w w')
    have HT := Lib.hid (tkIs_err ht)
    have t1 : ((c : Int) != 0) = true := by rw [bne_iff_ne]; have := err_ne ht; omega
    generalize Vr.takeNats s.data.toList = ans at *
    clear ht hsl hcn
    go_enter Try.func45, Try.ntmps45
    go_wp2_with fail
    refine (take_is s hsm.out 0 ⟨#[]⟩ c HT.out _).mono ?_
    rintro e w1 ⟨rfl, k, rfl⟩
    go_wp2
    go_ret3
    exact HQ.out _ (below_drewN' (Below.refl _ _) _)
  | ok n r =>
    have HT := Lib.hid (tkIs_ok ht)
    have hrl := take_le ht
    have hrs := size_mkB r
    obtain ⟨R, hR⟩ : ∃ R : ByteArray, R = ⟨r.toArray⟩ := ⟨_, rfl⟩
    rw [← hR] at HT hrs
    by_cases hn : r.length < n
    · have HQ := Lib.hid (fun w' => @TnQ_err _ 10 (takeNats_short ht hn) w w')
      have t2 : (R.size : Int) < (n : Int) := by omega
      generalize Vr.takeNats s.data.toList = ans at *
      clear ht hsl hrl hR hrs hcn
      go_enter Try.func45, Try.ntmps45
      go_wp2_with fail
      refine (take_is s hsm.out n R 0 HT.out _).mono ?_
      rintro e w1 ⟨rfl, k, rfl⟩
      go_wp2
      go_ret3
      exact HQ.out _ (below_drewN' (Below.refl _ _) _)
    · have HG := Lib.hid (takeNats_go ht hn)
      have t2 : ¬ (R.size : Int) < (n : Int) := by omega
      have t3 : decide (R.size < n) = false := by simp; omega
      have t4 : decide ((R.size : Int) < (n : Int)) = false := by simp; omega
      have hnl : n ≤ 1000000 := hcn n r ht (by omega)
      have hRl : R.size ≤ 281474976710656 := by omega
      have HRe := Lib.hid hR
      obtain ⟨ans, hans⟩ : ∃ a, a = Vr.takeNats s.data.toList := ⟨_, rfl⟩
      rw [← hans] at HG ⊢
      clear ht hsl hrl hR hrs hn hans hcn
      have hmk := run_make_row' (P := Try.prog) 47 3 (.int .i64 0) 8 Try.underlying47 infoI rfl .i64 .i64 n (by omega) (by omega)
      go_enter Try.func45, Try.ntmps45
      go_wp2_with fail
      refine (take_is s hsm.out n R 0 HT.out _).mono ?_
      rintro e w1 ⟨rfl, k, rfl⟩
      go_wp2
      clear hmk
      go_loopw [2, 3, 4, 26] (fun v rs e i wr => ∃ ns : List Nat, ∃ T : ByteArray, ns.length ≤ n ∧ v = .slice (some ⟨w.heap.size, 0, none⟩) n n ∧ i = .int .i64 ns.length ∧ e = .int .i64 0 ∧ rs = .string T ∧ T.size ≤ 281474976710656 ∧ Hid (ans = Vr.LR.pre ns (Vr.takeN (n - ns.length) T.data.toList)) ∧ wr.rowIs w.heap.size 3 n (intsF ns) ∧ Below w.heap.size w wr) (fun _ _ _ i _ => n - (intOf i).toNat)
      case atStart =>
        refine ⟨[], R, by simp, rfl, rfl, rfl, rfl, hRl, ?_, ?_, (below_drewN' (Below.refl _ _) k).alloc (Nat.le_refl _) _⟩
        · show ans = _
          rw [HG.out, HRe.out, Vr.LR.pre_nil]; rfl
        · exact (World.rowIs_made (w.drewN k) (.int .i64 0) n 3).congr fun i _ => by simp [intsF]
      case round =>
        obtain ⟨ns, T, hk, rfl, rfl, rfl, rfl, hT, HA, hRow, hB⟩ := hrel
        obtain ⟨j, hj⟩ : ∃ j, j = ns.length := ⟨_, rfl⟩
        rw [← hj] at hk ⊢
        by_cases hlt : j < n
        · have hc := hRow.cell hlt
          have hf := hRow.frozen j
          have hTm : Hid (T.size ≤ maxLen) := Lib.hid (by unfold maxLen; omega)
          have hTl : T.data.toList.length = T.size := by simp
          cases ht : Vr.take T.data.toList with
          | err c =>
            have HQ := Lib.hid (fun w' => @TnQ_err ans c (by rw [HA.out, ← hj, show n - j = (n - j - 1) + 1 by omega, Vr.takeN_err ht]; rfl) w w')
            have HT2 := Lib.hid (tkIs_err ht)
            have t1 : ((c : Int) != 0) = true := by rw [bne_iff_ne]; have := err_ne ht; omega
            have HJ := Lib.hid hj
            clear ht hTl hRow hj
            go_wp2_with fail
            refine (take_is T hTm.out 0 ⟨#[]⟩ c HT2.out _).mono ?_
            rintro e w2 ⟨rfl, k2, rfl⟩
            go_wp2
            go_ret3
            exact HQ.out _ ((below_drewN' hB _).setCell (Nat.le_refl _) _)
          | ok m r2 =>
            have hr2 := take_le ht
            have hs2 := size_mkB r2
            have HT2 := Lib.hid (tkIs_ok ht)
            have HN : Hid (ans = Vr.LR.pre (ns ++ [m]) (Vr.takeN (n - (j + 1)) r2)) := Lib.hid (by rw [HA.out, ← hj, show n - j = (n - (j + 1)) + 1 by omega, Vr.takeN_ok ht, Vr.LR.pre_pre])
            obtain ⟨R2, hR2⟩ : ∃ R : ByteArray, R = ⟨r2.toArray⟩ := ⟨_, rfl⟩
            rw [← hR2] at HT2 hs2
            have hR2s : R2.size ≤ 281474976710656 := by omega
            have HR2 := Lib.hid hR2
            have HRow := Lib.hid hRow
            have HJ := Lib.hid hj
            clear ht hTl hr2 hs2 hR2 hRow hj
            go_wp2_with fail
            refine (take_is T hTm.out m R2 0 HT2.out _).mono ?_
            rintro e w2 ⟨rfl, k2, rfl⟩
            go_wp2
            go_roundw
            case rel =>
              have hj := HJ.out
              refine ⟨ns ++ [m], R2, by simp; omega, rfl, by rw [List.length_append, ← hj]; go_num, rfl, rfl, hR2s, ?_, ?_, ?_⟩
              · show ans = _
                rw [HN.out, HR2.out, List.length_append, ← hj]; rfl
              · refine ((show (wr.drewN k2).rowIs w.heap.size 3 n (intsF ns) from HRow.out).set j _).congr fun i _ => ?_
                rw [hj]
                exact intsF_set ns m n i (by omega)
              · exact (below_drewN' hB _).setCell (Nat.le_refl _) _
            case measure => simp [intOf]; omega
        · obtain rfl : j = n := by omega
          have hQ : ans = .ok ns T.data.toList := by
            rw [HA.out, ← hj, Nat.sub_self]; simp [Vr.takeN, Vr.LR.pre]
          have hT3 : T = ⟨T.data.toList.toArray⟩ := rfl
          have HQ := Lib.hid hQ
          have HJ := Lib.hid hj
          clear hQ hT3 hj
          go_wp2
          go_ret3
          rw [HQ.out]
          refine ⟨_, _, ret3 (by rw [← HJ.out]; rfl) rfl rfl, ?_, hB⟩
          rw [← HJ.out]
          exact Row1.of_row hRow

theorem takeB (s : ByteArray) (hs : s.size ≤ maxLen) (n : Nat) (R : ByteArray) (c : Nat) (h : TkIs s.data.toList n R c) (w : World) :
    Calls Try.prog 32 #[.string s] w fun e w' => e = .returned (.tuple #[.int .i64 n, .string R, .int .i64 c]) ∧ Below w.heap.size w w' :=
  (take_is s hs n R c h w).mono fun _ _ ⟨he, k, hk⟩ => ⟨he, by subst hk; exact below_drewN' (Below.refl _ _) k⟩
theorem takeintB (s : ByteArray) (hs : s.size ≤ maxLen) (n : Nat) (R : ByteArray) (c : Nat) (h : TkIs s.data.toList n R c) (w : World) :
    Calls Try.prog 37 #[.string s] w fun e w' => e = .returned (.tuple #[.int .i64 (Vr.zag n), .string R, .int .i64 c]) ∧ Below w.heap.size w w' :=
  (takeint_is s hs n R c h w).mono fun _ _ ⟨he, k, hk⟩ => ⟨he, by subst hk; exact below_drewN' (Below.refl _ _) k⟩
theorem takebytesB (s : ByteArray) (hs : s.size ≤ maxLen) (n : Nat) (R : ByteArray) (c : Nat) (h : TkIs s.data.toList n R c) (w : World) :
    Calls Try.prog 39 #[.string s] w fun e w' => e = .returned (.tuple #[.string (tbT n R c), .string (tbR n R c), .int .i64 (tbE n R c : Nat)]) ∧ Below w.heap.size w w' :=
  (takebytes_any s hs n R c h w).mono fun _ _ ⟨he, k, hk⟩ => ⟨he, by subst hk; exact below_drewN' (Below.refl _ _) k⟩
theorem sameB (A B : Option Addr) (n c d : Nat) (f g : Nat → Int) (hn : n ≤ 9223372036854775807) (hfg : ∀ i, i < n → f i = g i) (w : World) (hA : Row1 w w.heap.size A n (fun i => .int .i64 (f i))) (hB : Row1 w w.heap.size B n (fun i => .int .i64 (g i))) :
    Calls Try.prog 47 #[.slice A n c, .slice B n d] w fun e w' => e = .returned (.bool true) ∧ Below w.heap.size w w' :=
  (same_yes A B n c d f g hn hfg w hA hB).mono fun _ _ ⟨he, k, hk⟩ => ⟨he, by subst hk; exact below_drewN' (Below.refl _ _) k⟩
theorem data_putS (m : Nat) (r : ByteArray) : (putS m ++ r).data.toList = uvarint m ++ r.data.toList := by
  rw [ByteArray.data_append, Array.toList_append]; rfl
theorem back_nat (m : Nat) (h : m < 9223372036854775808) (r : ByteArray) : TkIs (putS m ++ r).data.toList m r 0 := by
  rw [data_putS]
  have := tkIs_ok (Vr.take_put m h r.data.toList)
  exact this
/-- what Nat answers, by letters -/
theorem natIs (n : Int) (h : n < 9223372036854775808) (rest : ByteArray) : ∃ (P : ByteArray) (c : Nat), (∀ w : World, Calls Try.prog 30 #[.int .i64 n] w fun e w' => e = .returned (.tuple #[.string P, .int .i64 c]) ∧ Below w.heap.size w w') ∧ P.size ≤ 10 ∧ (c = 0 ∧ (∃ x : Nat, (x : Int) = n ∧ TkIs (P ++ rest).data.toList x rest 0) ∨ c = 1) := by
  by_cases h0 : 0 ≤ n
  · refine ⟨putS n.toNat, 0, fun w => nat_ok n h0 h w, putS_le _ (by omega), .inl ⟨rfl, n.toNat, by omega, back_nat _ (by omega) rest⟩⟩
  · exact ⟨⟨#[]⟩, 1, fun w => (nat_bad n (by omega) w).mono fun _ _ ⟨he, hw⟩ => ⟨he, by subst hw; exact Below.refl _ _⟩, by decide, .inr rfl⟩
theorem intIs (n : Int) (rest : ByteArray) : ∃ (P : ByteArray) (c : Nat), (∀ w : World, Calls Try.prog 35 #[.int .i64 n] w fun e w' => e = .returned (.tuple #[.string P, .int .i64 c]) ∧ Below w.heap.size w w') ∧ P.size ≤ 10 ∧ (c = 0 ∧ (∃ x : Nat, Vr.zag x = n ∧ TkIs (P ++ rest).data.toList x rest 0) ∨ c = 1) := by
  by_cases h0 : -4611686018427387904 ≤ n ∧ n < 4611686018427387904
  · have hz := Vr.zig_lt h0.1 h0.2
    exact ⟨putS (Vr.zig n), 0, fun w => int_ok n h0.1 h0.2 w, putS_le _ (by omega), .inl ⟨rfl, Vr.zig n, Vr.zag_zig n, back_nat _ hz rest⟩⟩
  · exact ⟨⟨#[]⟩, 1, fun w => (int_bad n (by omega) w).mono fun _ _ ⟨he, hw⟩ => ⟨he, by subst hw; exact Below.refl _ _⟩, by decide, .inr rfl⟩
theorem ext_pre (t r : ByteArray) : (t ++ r).extract 0 t.size = t := by
  apply ByteArray.ext
  rw [ByteArray.data_extract, ByteArray.data_append]
  apply Array.toList_inj.1
  rw [Array.toList_extract, Array.toList_append, List.extract_eq_take_drop, List.drop_zero, Nat.sub_zero]
  have : t.data.toList.length = t.size := by simp
  rw [List.take_append_of_le_length (by omega), List.take_of_length_le (by omega)]
theorem ext_suf (t r : ByteArray) : (t ++ r).extract t.size (t ++ r).size = r := by
  rw [rest_of, ByteArray.data_append, Array.toList_append]
  have : t.data.toList.length = t.size := by simp
  rw [List.drop_append_of_le_length (by omega), List.drop_of_length_le (by omega), List.nil_append]
theorem back_text (t r : ByteArray) : tbT t.size (t ++ r) 0 = t ∧ tbR t.size (t ++ r) 0 = r ∧ tbE t.size (t ++ r) 0 = 0 := by
  have h : ¬ (t ++ r).size < t.size := by rw [ByteArray.size_append]; omega
  unfold tbT tbR tbE
  rw [if_neg (by simp), if_neg h, if_neg (by simp), if_neg h, if_neg (by simp), if_neg h]
  exact ⟨ext_pre t r, ext_suf t r, rfl⟩
theorem listB_nats (f : Nat → Int) (n : Nat) : Vr.listB ((List.range n).map fun i => (f i).toNat) = natsB f n := by
  unfold Vr.listB natsB; rw [List.flatMap_map]
theorem back_nats (f : Nat → Int) (n : Nat) (hn : n ≤ 5000) (h0 : ∀ i, i < n → 0 ≤ f i) (h1 : ∀ i, f i < 9223372036854775808) (r : ByteArray) :
    Vr.takeNats (natsS f n ++ r).data.toList = .ok ((List.range n).map fun i => (f i).toNat) r.data.toList := by
  have h := Vr.takeNats_put ((List.range n).map fun i => (f i).toNat) (by simp; omega) (by
    intro m hm
    simp only [List.mem_map, List.mem_range] at hm
    obtain ⟨i, hi, rfl⟩ := hm
    have := h1 i; have := h0 i hi; omega) r.data.toList
  rw [List.length_map, List.length_range, listB_nats] at h
  rw [ByteArray.data_append, Array.toList_append]
  exact h
theorem natsS_le (f : Nat → Int) (n : Nat) (hn : n ≤ 5000) (h1 : ∀ i, f i < 9223372036854775808) : (natsS f n).size ≤ 50010 := by
  have e : (natsS f n).size = (uvarint n ++ natsB f n).length := size_mkB _
  rw [e, List.length_append]
  have := uv_len n (by omega)
  have := natsB_len f n (fun i _ => h1 i) n (Nat.le_refl _)
  omega
end Go.Proofs.Ytjeiklgaiefeaaa
