/- The law FrameCuts: the beginning of frames put one behind the other. Conditions: bounds on sizes. -/
import Derived.Test.YtjeiklgaiefeaaaFrmStage
import Derived.Test.YtjeiklgaiefeaaaVarCuts
namespace Go.Proofs.Ytjeiklgaiefeaaa
open Go.RowKit Go.Lib Go.Shelf
set_option linter.unusedVariables false
theorem next_short (t : Nat → Nat) (x R r : ByteArray) (hx : x.size ≤ 1048576) (h : frameS t x = R ++ r) (hr : r.size ≠ 0) : nextS t R = .err 10 := by
  have h1 := congrArg (fun b : ByteArray => b.data.toList) h
  simp only [frame_data, bs_app] at h1
  have h2 := congrArg List.length h1
  simp only [List.length_append, bs_len] at h2
  rw [sum_size] at h2
  by_cases hl : R.data.toList.length < (uvarint x.size).length
  · have e : R.data.toList = (uvarint x.size).take R.data.toList.length := by
      have h3 := congrArg (List.take R.data.toList.length) h1
      rw [List.take_left, List.append_assoc, List.take_append_of_le_length (by omega)] at h3
      exact h3.symm
    have ht := Vr.take_cut x.size (by omega) _ hl
    rw [← e] at ht
    exact next_err ht
  · obtain ⟨q, hq⟩ : ∃ q, q = R.data.toList.drop (uvarint x.size).length := ⟨_, rfl⟩
    have e : R.data.toList = uvarint x.size ++ q := by
      have h3 := congrArg (List.take (uvarint x.size).length) h1
      rw [List.append_assoc, List.take_left, List.take_append_of_le_length (by omega)] at h3
      rw [hq]
      conv => lhs; rw [← List.take_append_drop (uvarint x.size).length R.data.toList]
      rw [← h3]
    have ht := Vr.take_put x.size (by omega) q
    rw [← e] at ht
    have hs := congrArg List.length e
    rw [List.length_append, bs_len] at hs
    have hg := next_go (t := t) (R := ⟨q.toArray⟩) ht
    rw [hg]
    refine next_10 (by omega) ?_
    rw [mkS]; omega
theorem catS_app (a b : List ByteArray) : catS (a ++ b) = catS a ++ catS b := by
  have h := catS_foldr b ⟨#[]⟩
  have e : catS b ++ ⟨#[]⟩ = catS b := ByteArray.append_empty
  rw [e] at h
  rw [← h]
  show (a ++ b).foldl _ _ = _
  rw [List.foldl_append]
  exact cat_foldr b _
/-- what is split of the beginning of frames -/
theorem frs_cut (l : List ByteArray) (hl : ∀ x ∈ l, x.size ≤ 1048576) (j k : Nat) (hj : j ≤ l.length) (h1 : (catS (l.take j)).size ≤ k) (h2 : j < l.length → k < (catS (l.take (j + 1))).size) (h3 : k ≤ (catS l).size) :
    ∃ xs, Frs Crc.tab ((catS l).extract 0 k) xs ∧ ∀ l' c, SplitIs xs l' c → l' = (l.take j).map (fun x => (x, 0)) ∧ ((c = 0 ∧ k = (catS (l.take j)).size) ∨ (c = 10 ∧ (catS (l.take j)).size < k)) := by
  have hmem : ∀ x ∈ l.take j, x.size ≤ 1048576 := fun x hx => hl x (List.mem_of_mem_take hx)
  have hab : catS l = catS (l.take j) ++ catS (l.drop j) := by rw [← catS_app, List.take_append_drop]
  by_cases hlt : j < l.length
  · have h2 := h2 hlt
    obtain ⟨x, hx⟩ : ∃ x, x = l.getD j ⟨#[]⟩ := ⟨_, rfl⟩
    have ht := catS_take (l := l) (k := j) hlt
    rw [← hx] at ht
    have hxm : x.size ≤ 1048576 := by
      refine hl x ?_
      rw [hx, List.getD_eq_getElem?_getD, List.getElem?_eq_getElem hlt]
      exact List.getElem_mem _
    have hcd : catS l = (catS (l.take j) ++ frameS Crc.tab x) ++ catS (l.drop (j + 1)) := by rw [← ht, ← catS_app, List.take_append_drop]
    rw [ht, ByteArray.size_append] at h2
    obtain ⟨A, hA⟩ : ∃ A, A = catS (l.take j) := ⟨_, rfl⟩
    obtain ⟨F, hF⟩ : ∃ F, F = frameS Crc.tab x := ⟨_, rfl⟩
    rw [← hA] at h1 h2
    rw [← hF] at h2
    have hA2 : A.data.toList.length = A.size := bs_len A
    have he : (catS l).extract 0 k = A ++ F.extract 0 (k - A.size) := by
      rw [hcd, ← hA, ← hF]
      apply bs_ext
      have hF2 : F.data.toList.length = F.size := bs_len F
      rw [bs_pre, bs_app, bs_app, bs_app, bs_pre, List.append_assoc, List.take_append, List.take_of_length_le (by omega), List.take_append_of_le_length (by omega), hA2]
    have hR : (F.extract 0 (k - A.size)).size = k - A.size := by rw [ByteArray.size_extract]; omega
    obtain ⟨R, hRR⟩ : ∃ R, R = F.extract 0 (k - A.size) := ⟨_, rfl⟩
    rw [← hRR] at he hR
    by_cases h0 : R.size = 0
    · have hfr := frs_catS (l.take j) R [] hmem (.nil h0)
      rw [← hA, ← he] at hfr
      refine ⟨_, hfr, fun l' c hs => ?_⟩
      obtain ⟨rfl, rfl⟩ := splitIs_zero.uniq hs
      exact ⟨rfl, .inl ⟨rfl, by rw [← hA]; omega⟩⟩
    · have hn : nextS Crc.tab R = .err 10 := by
        refine next_short Crc.tab x R (F.extract (k - A.size) F.size) hxm ?_ (by rw [ByteArray.size_extract]; omega)
        rw [← hF, hRR]
        apply bs_ext
        rw [bs_app, bs_pre, bs_suf, List.take_append_drop]
      have hfr := frs_catS (l.take j) R _ hmem (.bad h0 hn)
      rw [← hA, ← he] at hfr
      refine ⟨_, hfr, fun l' c hs => ?_⟩
      have hsp : SplitIs ((l.take j).map (fun x => (x, 0)) ++ [(⟨#[]⟩, 10)]) ((l.take j).map (fun x => (x, 0))) 10 := ⟨fun p hp => by obtain ⟨x, _, rfl⟩ := List.mem_map.1 hp; rfl, .inr ⟨by decide, ⟨#[]⟩, rfl⟩⟩
      obtain ⟨rfl, rfl⟩ := hsp.uniq hs
      exact ⟨rfl, .inr ⟨rfl, by rw [← hA]; omega⟩⟩
  · have e : l.take j = l := List.take_of_length_le (by omega)
    rw [e] at h1 hmem ⊢
    have hk : k = (catS l).size := by omega
    have he : (catS l).extract 0 k = catS l ++ ⟨#[]⟩ := by
      rw [hk]
      apply bs_ext
      rw [bs_pre, bs_app, List.take_of_length_le (by rw [bs_len]; omega)]
      exact (List.append_nil _).symm
    have hfr := frs_catS l ⟨#[]⟩ [] hmem (.nil rfl)
    rw [← he] at hfr
    refine ⟨_, hfr, fun l' c hs => ?_⟩
    obtain ⟨rfl, rfl⟩ := splitIs_zero.uniq hs
    exact ⟨rfl, .inl ⟨rfl, hk⟩⟩
theorem row_ends {w : World} {base : Nat} {v : Value} {l : List ByteArray} (h : w.ownsRow base 3 1 v l.length (endsL l l.length)) :
    ∃ A cap, v = .slice A l.length cap ∧ Row1 w w.heap.size A l.length (fun i => .int .i64 ((catS (l.take (i + 1))).size : Nat)) := by
  rcases h.2 with ⟨rfl, h0⟩ | ⟨g, cap, cur, rfl, _⟩
  · have hl : l = [] := by
      cases l with
      | nil => rfl
      | cons x l => simp at h0
    subst hl
    exact ⟨none, 0, rfl, Row1.nil⟩
  · exact ⟨_, cap, rfl, Row1.of_own h (fun i hi => by simp [endsL, hi])⟩
set_option maxRecDepth 100000 in
set_option maxHeartbeats 4000000 in
theorem law_FrameCuts (a : Option Addr) (len cap : Nat) (L : List ByteArray) (cut : Int) (w : World) (h0 : IsRowS w a len cap L) (wc : (Lit.int .i64 cut).wf = true) :
    Calls Try.prog 19 #[.slice a len cap, .int .i64 cut] w fun e w' => e = .returned (.bool true) ∧ Below w.heap.size w w' := by
  obtain ⟨hlen, hle, hcap, hrow, hsm⟩ := h0
  subst hlen
  unfold maxLen at hle
  have HR := Lib.hid hrow
  have HL := Lib.hid hsm
  clear hrow hsm wc
  cases hf : fewS L with
  | false =>
    have HF := Lib.hid hf
    clear hf
    go_enter Try.func19, Try.ntmps19
    go_wp2_with fail
    refine (awake3_any _).mono ?_
    rintro e w1 ⟨rfl, hB1⟩
    have HR1 := Lib.hid ((HR.out.below hB1).more hB1.size)
    go_wp2_with fail
    refine (few_any a cap L (by omega) HL.out _ HR1.out).mono ?_
    rw [HF.out]
    rintro e w2 ⟨rfl, hB2⟩
    have hB := bt hB1 hB2
    clear hB1 hB2
    go_wp2
    go_ret
    exact ⟨rfl, hB⟩
  | true =>
    have h3 : lens L ≤ 3000 ∧ L.length ≤ 50 := by
      unfold fewS at hf
      rw [Bool.and_eq_true, decide_eq_true_eq, decide_eq_true_eq] at hf
      exact hf
    obtain ⟨h3, h5⟩ := h3
    have hcl := catS_le L h3 L.length (Nat.le_refl _)
    rw [List.take_length] at hcl
    obtain ⟨C, hC⟩ : ∃ C, C = catS L := ⟨_, rfl⟩
    rw [← hC] at hcl
    have l4 : C.size ≤ 10000 := by omega
    obtain ⟨m1, e1, l1⟩ := and_low cut 65535 (by decide)
    obtain ⟨k, hk⟩ : ∃ k, k = m1 % (C.size + 1) := ⟨_, rfl⟩
    have q1 : (m1 : Int) % ((C.size : Int) + 1) = (k : Int) := by rw [hk]; simp
    have q2 : k ≤ C.size := by have := Nat.mod_lt m1 (show 0 < C.size + 1 by omega); omega
    have q3 : (((C.size : Int) + 1) == 0) = false := by rw [beq_eq_false_iff_ne]; omega
    have q4 : IntKind.i64.wrap ((C.size : Int) + 1) = (C.size : Int) + 1 := IntWalk.i64_in _ (by omega)
    replace e1 : bits .and .i64 cut 65535 = (m1 : Int) := e1
    have HF := Lib.hid hf
    have H3 := Lib.hid h3
    have HC := Lib.hid hC
    have hq5 : (k : Int) ≤ (C.size : Int) := by omega
    clear hf hC h3 hcl hk l1
    go_enter Try.func19, Try.ntmps19
    go_wp2_with fail
    refine (awake3_any _).mono ?_
    rintro e w1 ⟨rfl, hB1⟩
    have HR1 := Lib.hid ((HR.out.below hB1).more hB1.size)
    go_wp2_with fail
    refine (few_any a cap L (by omega) HL.out _ HR1.out).mono ?_
    rw [HF.out]
    rintro e w2 ⟨rfl, hB2⟩
    have HR2 := Lib.hid ((HR1.out.below hB2).more hB2.size)
    go_wp2_with fail
    refine (lawall_any a cap L (by omega) H3.out _ HR2.out).mono ?_
    rw [← HC.out]
    rintro e w3 ⟨v3, rfl, hO3, hB3⟩
    have HR3 := Lib.hid ((HR2.out.below hB3).more hB3.size)
    obtain ⟨A3, c3, rfl, hE3⟩ := row_ends hO3
    have HE := Lib.hid hE3
    have hB := bt hB1 (bt hB2 hB3)
    obtain ⟨n, hn⟩ : ∃ n, n = L.length := ⟨_, rfl⟩
    rw [← hn] at hcap hle h5 ⊢
    have HN := Lib.hid hn
    clear hB1 hB2 hB3 hO3 hE3 hn
    go_wp2
    rw [q1]
    clear q1 q3 q4 e1
    go_loopw [9, 10, 11] (fun b u i wr => ∃ m j r : Nat, m ≤ n ∧ j ≤ m ∧ i = .int .i64 m ∧ b = .int .i64 j ∧ u = .int .i64 ((catS (L.take j)).size : Nat) ∧ wr = w3.drewN r ∧ Hid ((catS (L.take j)).size ≤ k) ∧ Hid (j < m → k < (catS (L.take (j + 1))).size)) (fun _ _ i _ => n - (intOf i).toNat)
    case atStart => exact ⟨0, 0, 0, by omega, by omega, rfl, rfl, rfl, rfl, Nat.zero_le _, fun h => absurd h (by omega)⟩
    case round =>
      obtain ⟨m, j, r, hm, hj, rfl, rfl, rfl, rfl, HJ, HK⟩ := hrel
      obtain ⟨u, hu⟩ : ∃ u, u = (catS (L.take j)).size := ⟨_, rfl⟩
      rw [← hu]
      by_cases hlt : m < n
      · obtain ⟨ad, hA, -, hc⟩ := HE.out m (by have := HN.out; omega)
        subst hA
        replace hc : w3.cell? (ad.add m) = some (.int .i64 ((catS (L.take (m + 1))).size : Nat)) := hc
        obtain ⟨z, hz⟩ : ∃ z, z = (catS (L.take (m + 1))).size := ⟨_, rfl⟩
        rw [← hz] at hc
        have hw : IntKind.i64.wrap ((m : Int) + 1) = (m : Int) + 1 := IntWalk.i64_in _ (by omega)
        by_cases hzk : z ≤ k
        · have t1 : (z : Int) ≤ (k : Int) := by omega
          have HZ := Lib.hid hz
          have HU := Lib.hid hu
          have HZK := Lib.hid hzk
          clear hz hu hzk
          go_wp2
          go_quiet (fail)
          go_wp2
          go_roundw
          case rel => exact ⟨m + 1, m + 1, _, by omega, by omega, by go_num, by go_num, by rw [HZ.out], rfl, by rw [← HZ.out]; exact HZK.out, fun h => absurd h (by omega)⟩
          case measure => simp [intOf]; omega
        · have t1 : ¬ (z : Int) ≤ (k : Int) := by omega
          have hk2 : j < m + 1 → k < (catS (L.take (j + 1))).size := fun h => by
            by_cases h2 : j < m
            · exact HK.out h2
            · have : j = m := by omega
              rw [this, ← hz]; omega
          have HK2 := Lib.hid hk2
          have HU := Lib.hid hu
          clear hz hu hzk hk2
          go_wp2
          go_roundw
          case rel => exact ⟨m + 1, j, r, by omega, by omega, by go_num, rfl, by rw [HU.out], rfl, HJ, HK2⟩
          case measure => simp [intOf]; omega
      · obtain rfl : m = n := by omega
        obtain ⟨xs, hfr, hsp⟩ := frs_cut L (fun x hx => by have := lens_mem hx; have := H3.out; omega) j k (by have := HN.out; omega) HJ.out (fun h => HK.out (by have := HN.out; omega)) (by rw [← HC.out]; exact q2)
        rw [← HC.out] at hfr
        have HFr := Lib.hid hfr
        have HSp := Lib.hid hsp
        have hsu : usedOf ((L.take j).map (fun x => (x, 0))) = u := by rw [usedOf_cat, map_fst0, hu]
        have HSU := Lib.hid hsu
        have HU := Lib.hid hu
        have hlj : ((L.take j).map (fun x => (x, 0))).length = j := by rw [List.length_map, List.length_take]; have := HN.out; omega
        have HLJ := Lib.hid hlj
        have l5 : (C.extract 0 k).size ≤ 1000000 := by rw [ByteArray.size_extract]; omega
        clear hfr hsp hsu hu hlj
        go_wp2
        go_region_with (first
          | (go_at_call 49; refine (table_f _).mono ?_; rintro e w4 ⟨A4, c4, rfl, hT, hB4⟩)
          | (go_at_call 54; refine (split_any A4 c4 Crc.tab tabIs (C.extract 0 k) l5 xs HFr.out _ (by exact hT)).mono ?_; rintro e w5 ⟨v5, l, d, rfl, hS, ⟨m5, hO⟩, hB5⟩))
        all_goals
          obtain ⟨rfl, hcase⟩ := HSp.out l d hS
          obtain ⟨A5, c5, rfl, hR5⟩ := row_str hO
          rw [HSU.out, HLJ.out]
          rw [HLJ.out] at hR5
          have hB35 : Below w3.heap.size w3 w5 := bt (below_drewN' (Below.refl _ _) r).drew (bt hB4 hB5)
          have HR5 := Lib.hid hR5
          have HR6 := Lib.hid ((HR3.out.below hB35).more hB35.size)
          have hBB := bt hB hB35
          clear hR5 hO hS hT hB4 hB5 hB35
          have hjn : j ≤ 9223372036854775807 := by omega
          rcases hcase with ⟨rfl, hk⟩ | ⟨rfl, hk⟩
          · obtain rfl : k = u := hk.trans HU.out.symm
            clear hk
            go_wp2_with fail
            refine (texts_yes A5 a j c5 cap _ _ hjn (fun i hi => by rw [map_fst0, List.getD_eq_getElem?_getD, List.getD_eq_getElem?_getD, List.getElem?_take_of_lt hi]) _ HR5.out (fun i hi => HR6.out i (by have := HN.out; omega))).mono ?_
            rintro e w6 ⟨rfl, hB6⟩
            have hBD := bt hBB hB6
            clear hBB hB6
            go_wp2
            go_ret
            exact ⟨rfl, hBD⟩
          · rw [← HU.out] at hk
            have t1 : ((k : Int) == (u : Int)) = false := by rw [beq_eq_false_iff_ne]; omega
            have t2 : (u : Int) < (k : Int) := by omega
            clear hk
            go_wp2_with fail
            refine (texts_yes A5 a j c5 cap _ _ hjn (fun i hi => by rw [map_fst0, List.getD_eq_getElem?_getD, List.getD_eq_getElem?_getD, List.getElem?_take_of_lt hi]) _ HR5.out (fun i hi => HR6.out i (by have := HN.out; omega))).mono ?_
            rintro e w6 ⟨rfl, hB6⟩
            have hBD := bt hBB hB6
            clear hBB hB6
            go_wp2
            go_ret
            exact ⟨rfl, hBD⟩
end Go.Proofs.Ytjeiklgaiefeaaa
