/- The walk of VarintAgain: the call returns true, and writes nothing that was there. No condition. -/
import Derived.Test.YtjeiklgaiefeaaaVarLetters
namespace Go.Proofs.Ytjeiklgaiefeaaa
open Go.RowKit Go.Lib
set_option linter.unusedVariables false
set_option maxRecDepth 100000 in
set_option maxHeartbeats 2000000 in
theorem nats_long (A : Option Addr) (n cap : Nat) (f : Nat → Int) (hn : n ≤ 50000) (hL : ∀ k, k ≤ n → (natsB f k).length ≤ 90000) (hf : ∀ i, i < n → 0 ≤ f i ∧ f i < 9223372036854775808) (w : World) (hR : Row1 w w.heap.size A n (fun i => .int .i64 (f i))) :
    Calls Try.prog 43 #[.slice A n cap] w fun e w' => e = .returned (.tuple #[.string (natsS f n), .int .i64 0]) ∧ Below w.heap.size w w' := by
  have HR := Lib.hid hR
  have HF := Lib.hid hf
  have HL := Lib.hid hL
  obtain ⟨S, hS⟩ : ∃ S, S = natsS f n := ⟨_, rfl⟩
  rw [← hS]
  have HS := Lib.hid hS
  clear hR hf hS hL
  go_enter Try.func43, Try.ntmps43
  go_wp2_with fail
  refine (put_any w.heap.size _ 0 [] n (by omega) (by omega) _ (nil_own _ _) (Nat.le_refl _)).mono ?_
  rintro e w1 ⟨v, j, rfl, hO, hB⟩
  go_wp2
  go_loopw [4, 13] (fun v i wr => ∃ k m : Nat, k ≤ n ∧ i = .int .i64 k ∧ wr.ownsRow w.heap.size 5 1 v m ((uvarint n ++ natsB f k).map b8) ∧ Below w.heap.size w wr) (fun _ i _ => n - (intOf i).toNat)
  case atStart => exact ⟨0, j, by omega, rfl, by simpa [natsB, putV] using hO, hB⟩
  case round =>
    obtain ⟨k, m, hk, rfl, hO', hB'⟩ := hrel
    clear hO hB
    by_cases hlt : k < n
    · obtain ⟨ad, hA, -, hc⟩ := (HR.out.below hB') k hlt
      subst hA
      replace hc : wr.cell? (ad.add k) = some (.int .i64 (f k)) := hc
      have h0 := (HF.out k hlt).1
      have h1 := (HF.out k hlt).2
      have HN := Lib.hid (natsB_succ f k)
      have hm : m ≤ 100000 := by
        have := own_len hO'
        rw [List.length_map, List.length_append] at this
        have := HL.out k hk
        have := uv_len n (by omega)
        omega
      obtain ⟨x, hx⟩ := Int.eq_ofNat_of_zero_le h0
      rw [hx] at hc
      have HX := Lib.hid hx
      have hxl : x < 9223372036854775808 := by omega
      clear hx h0 h1
      go_wp2_with fail
      refine (put_any w.heap.size _ m _ x hxl hm _ hO' hB'.size).mono ?_
      rintro e w2 ⟨v2, j2, rfl, hO2, hB2⟩
      go_wp2
      go_roundw
      case rel =>
        refine ⟨k + 1, j2, by omega, by go_num, ?_, hB'.trans hB2⟩
        rw [HN.out, HX.out, Int.toNat_natCast, ← List.append_assoc, List.map_append]
        exact hO2
      case measure => simp [intOf]; omega
    · obtain rfl : k = n := by omega
      have hcv : (convert 33 9 u4).run Try.prog wr = .ok (.string S) wr := by rw [HS.out]; exact conv_own (P := Try.prog) wr 33 9 5 w.heap.size u4 m (uvarint k ++ natsB f k) Try.underlying33 Try.underlying5 Try.underlying9 hO'
      clear hO'
      go_wp2
      go_ret2
      exact ⟨rfl, hB'⟩
theorem natsB_mono (f : Nat → Int) (n : Nat) : ∀ k, k ≤ n → (natsB f k).length ≤ (natsB f n).length := by
  induction n with
  | zero =>
    intro k hk
    have : k = 0 := by omega
    rw [this]
    exact Nat.le_refl _
  | succ n ih =>
    intro k hk
    rcases Nat.lt_or_ge k (n + 1) with h | h
    · rw [natsB_succ, List.length_append]; have := ih k (by omega); omega
    · obtain rfl : k = n + 1 := by omega
      exact Nat.le_refl _
theorem listB_getD (ns : List Nat) : natsB (fun i => (ns.getD i 0 : Nat)) ns.length = Vr.listB ns := by
  rw [← listB_nats]
  congr 1
  apply List.ext_getElem?
  intro i
  by_cases h : i < ns.length
  · simp [h]
  · rw [List.getElem?_eq_none (by simp; omega), List.getElem?_eq_none (by omega)]
theorem takeN_errne : ∀ (k : Nat) (l : List UInt8) (d : Nat), Vr.takeN k l = .err d → d ≠ 0
  | 0, l, d, h => by simp [Vr.takeN] at h
  | k + 1, l, d, h => by
    cases ht : Vr.take l with
    | err e => rw [Vr.takeN_err ht] at h; injection h with h; subst h; exact err_ne ht
    | ok n r =>
      rw [Vr.takeN_ok ht] at h
      cases h2 : Vr.takeN k r with
      | ok ns r' => rw [h2] at h; cases h
      | err e => rw [h2] at h; injection h with h; subst h; exact takeN_errne k r e h2
theorem TnErr {l : List UInt8} {d : Nat} (h : Vr.takeNats l = .err d) : d ≠ 0 := by
  unfold Vr.takeNats at h
  cases ht : Vr.take l with
  | err e => rw [ht] at h; injection h with h; subst h; exact err_ne ht
  | ok n r =>
    rw [ht] at h
    simp only at h
    split at h
    · injection h; omega
    · exact takeN_errne _ _ _ h
theorem of_list {s : ByteArray} {l : List UInt8} (h : s.data.toList = l) : s = ⟨l.toArray⟩ := by rw [← h]
theorem again_nat {s R : ByteArray} {x : Nat} (h : Vr.take s.data.toList = .ok x R.data.toList) : putS x ++ R = s := by
  have := (Vr.take_ok h).1
  apply ByteArray.ext
  apply Array.toList_inj.1
  rw [data_putS, this]
theorem take_pre' (s : ByteArray) (k : Nat) : (s.extract 0 k).data.toList = s.data.toList.take k := by
  rw [ByteArray.data_extract, Array.toList_extract, List.extract_eq_take_drop, List.drop_zero, Nat.sub_zero]
theorem again_text {s R : ByteArray} {x : Nat} (h : putS x ++ R = s) (hx : x ≤ R.size) : putS (R.extract 0 x).size ++ R.extract 0 x ++ R.extract x R.size = s := by
  have e : (R.extract 0 x).size = x := by simp; omega
  rw [e, ← h, ByteArray.append_assoc]
  congr 1
  apply ByteArray.ext
  apply Array.toList_inj.1
  rw [ByteArray.data_append, Array.toList_append, take_pre', rest_of]
  exact List.take_append_drop x R.data.toList
theorem again_nats {s : ByteArray} {ns : List Nat} {r : List UInt8} (h : Vr.takeNats s.data.toList = .ok ns r) : natsS (fun i => (ns.getD i 0 : Nat)) ns.length ++ ⟨r.toArray⟩ = s := by
  have h1 := (Vr.takeNats_back h).1
  apply ByteArray.ext
  apply Array.toList_inj.1
  rw [ByteArray.data_append, Array.toList_append, h1]
  show (uvarint ns.length ++ natsB _ ns.length) ++ r = _
  rw [listB_getD]
set_option maxRecDepth 100000 in
set_option maxHeartbeats 4000000 in
theorem law_VarintAgain (s : ByteArray) (hs : s.size ≤ maxLen) (w : World) :
    Calls Try.prog 15 #[.string s] w fun e w' => e = .returned (.bool true) ∧ Below w.heap.size w w' := by
  by_cases l1 : 10000 < s.size
  · have t1 : (10000 : Int) < (s.size : Int) := by omega
    go_enter Try.func15, Try.ntmps15
    go_wp2_with fail
    refine (awake1_any _).mono ?_
    rintro e w1 ⟨rfl, hB1⟩
    go_wp2
    go_ret
    exact ⟨rfl, hB1⟩
  have t1 : ¬ (10000 : Int) < (s.size : Int) := by omega
  have HM := Lib.hid hs
  have HM2 : Hid (s.size ≤ 1000000) := Lib.hid (by omega)
  have hsl : s.data.toList.length = s.size := by simp
  have hB : Below w.heap.size w w := Below.refl _ _
  cases ht : Vr.take s.data.toList with
  | err c =>
    have KN := Lib.hid (takeNats_err ht)
    have KT := tkIs_err ht
    have t2 : ((c : Int) == 0) = false := by rw [beq_eq_false_iff_ne]; have := err_ne ht; omega
    have hb3 : tbE 0 ⟨#[]⟩ c = c := by unfold tbE; rw [if_pos (err_ne ht)]
    have HB3 := Lib.hid hb3
    have hz : Vr.zag 0 = 0 := by decide
    have HZ := Lib.hid hz
    clear ht hs l1 hsl hb3 hz
    go_enter Try.func15, Try.ntmps15
    go_wp2_with (first
      | (go_at_call 34; refine (awake1_any _).mono ?_; rintro e w1 ⟨rfl, hb⟩; replace hB := bt hB hb; clear hb)
      | (go_at_call 32; refine (takeB _ HM.out 0 ⟨#[]⟩ c KT _).mono ?_; rintro e w1 ⟨rfl, hb⟩; replace hB := bt hB hb; clear hb)
      | (go_at_call 37; refine (takeintB _ HM.out 0 ⟨#[]⟩ c KT _).mono ?_; rintro e w1 ⟨rfl, hb⟩; replace hB := bt hB hb; clear hb)
      | (go_at_call 39; refine (takebytesB _ HM.out 0 ⟨#[]⟩ c KT _).mono ?_; rw [HB3.out]; rintro e w1 ⟨rfl, hb⟩; replace hB := bt hB hb; clear hb)
      | (go_at_call 45; refine (takenats_any _ HM2.out _).mono ?_; rw [KN.out]; rintro e w1 ⟨rfl, hb⟩; replace hB := bt hB hb; clear hb))
    go_ret
    exact ⟨rfl, hB⟩
  | ok x r =>
    obtain ⟨R, rfl⟩ : ∃ R : ByteArray, R.data.toList = r := ⟨⟨r.toArray⟩, rfl⟩
    have KT : TkIs s.data.toList x R 0 := tkIs_ok ht
    have hx := (Vr.take_ok ht).2
    have hrl := take_le ht
    have hRl : R.data.toList.length = R.size := by simp
    have hag := again_nat ht
    have HG := Lib.hid hag
    have hzr := Vr.zag_range hx
    have hzz := Vr.zig_zag x
    obtain ⟨z, hz⟩ : ∃ z, z = Vr.zag x := ⟨_, rfl⟩
    rw [← hz] at hzr hzz
    have HZ := Lib.hid hz
    have HZZ := Lib.hid hzz
    have z1 := Lib.hid hzr.1
    have z2 := Lib.hid hzr.2
    have hps := putS_le x (by omega)
    have hRs : R.size ≤ 10000 := by omega
    by_cases hn : R.data.toList.length < x
    · have KN := Lib.hid (takeNats_short ht hn)
      have hb3 : tbE x R 0 = 10 := by unfold tbE; rw [if_neg (by simp), if_pos (by omega)]
      have HB3 := Lib.hid hb3
      clear ht hs l1 hsl hb3 hz hzz hzr hag hrl hRl hn
      go_enter Try.func15, Try.ntmps15
      go_wp2_with (first
        | (go_at_call 34; refine (awake1_any _).mono ?_; rintro e w1 ⟨rfl, hb⟩; replace hB := bt hB hb; clear hb)
        | (go_at_call 32; refine (takeB _ HM.out x R 0 KT _).mono ?_; rintro e w1 ⟨rfl, hb⟩; replace hB := bt hB hb; clear hb)
        | (go_at_call 30; refine (nat_ok (x : Int) (by omega) (by omega) _).mono ?_; rw [Int.toNat_natCast]; rintro e w1 ⟨rfl, hb⟩; replace hB := bt hB hb; clear hb; have hG := HG.out)
        | (go_at_call 37; refine (takeintB _ HM.out x R 0 KT _).mono ?_; rw [← HZ.out]; rintro e w1 ⟨rfl, hb⟩; replace hB := bt hB hb; clear hb)
        | (go_at_call 35; refine (int_ok z z1.out z2.out _).mono ?_; rw [HZZ.out]; rintro e w1 ⟨rfl, hb⟩; replace hB := bt hB hb; clear hb)
        | (go_at_call 39; refine (takebytesB _ HM.out x R 0 KT _).mono ?_; rw [HB3.out]; rintro e w1 ⟨rfl, hb⟩; replace hB := bt hB hb; clear hb)
        | (go_at_call 45; refine (takenats_any _ HM2.out _).mono ?_; rw [KN.out]; rintro e w1 ⟨rfl, hb⟩; replace hB := bt hB hb; clear hb))
      go_ret
      exact ⟨rfl, hB⟩
    · obtain ⟨T, hT⟩ : ∃ T, T = R.extract 0 x := ⟨_, rfl⟩
      obtain ⟨Q, hQ⟩ : ∃ Q, Q = R.extract x R.size := ⟨_, rfl⟩
      obtain ⟨U, hU⟩ : ∃ U, U = putS T.size ++ T := ⟨_, rfl⟩
      have hag2 := again_text hag (by omega)
      rw [← hT, ← hQ, ← hU] at hag2
      have hb : ¬ R.size < x := by omega
      have B1 : Hid (tbT x R 0 = T) := Lib.hid (by unfold tbT; rw [if_neg (by simp), if_neg hb, hT])
      have B2 : Hid (tbR x R 0 = Q) := Lib.hid (by unfold tbR; rw [if_neg (by simp), if_neg hb, hQ])
      have B3 : Hid (tbE x R 0 = 0) := Lib.hid (by unfold tbE; rw [if_neg (by simp), if_neg hb])
      have hTs : T.size ≤ 10000 := by rw [hT, ByteArray.size_extract]; omega
      have hQs : Q.size ≤ 10000 := by rw [hQ, ByteArray.size_extract]; omega
      have hUs : U.size ≤ 20010 := by rw [hU, ByteArray.size_append]; have := putS_le T.size (by omega); omega
      have HTs : Hid (T.size ≤ 140737488351232) := Lib.hid (by omega)
      have HU := Lib.hid hU
      have HUQ := Lib.hid hag2
      cases hk : Vr.takeNats s.data.toList with
      | err d =>
        have KN := Lib.hid hk
        have hd : Hid (((d : Int) == 0) = false ∨ ((d : Int) == 0) = true) := Lib.hid (by cases h : ((d : Int) == 0) <;> simp)
        have hd0 : d ≠ 0 := TnErr hk
        have t2 : ((d : Int) == 0) = false := by rw [beq_eq_false_iff_ne]; omega
        clear ht hs l1 hsl hz hzz hzr hag hrl hRl hn hT hQ hU hag2 hb hk hd hd0
        go_enter Try.func15, Try.ntmps15
        go_wp2_with (first
          | (go_at_call 34; refine (awake1_any _).mono ?_; rintro e w1 ⟨rfl, hb⟩; replace hB := bt hB hb; clear hb)
          | (go_at_call 32; refine (takeB _ HM.out x R 0 KT _).mono ?_; rintro e w1 ⟨rfl, hb⟩; replace hB := bt hB hb; clear hb)
          | (go_at_call 30; refine (nat_ok (x : Int) (by omega) (by omega) _).mono ?_; rw [Int.toNat_natCast]; rintro e w1 ⟨rfl, hb⟩; replace hB := bt hB hb; clear hb; have hG := HG.out)
          | (go_at_call 37; refine (takeintB _ HM.out x R 0 KT _).mono ?_; rw [← HZ.out]; rintro e w1 ⟨rfl, hb⟩; replace hB := bt hB hb; clear hb)
          | (go_at_call 35; refine (int_ok z z1.out z2.out _).mono ?_; rw [HZZ.out]; rintro e w1 ⟨rfl, hb⟩; replace hB := bt hB hb; clear hb)
          | (go_at_call 39; refine (takebytesB _ HM.out x R 0 KT _).mono ?_; rw [B3.out, B1.out, B2.out]; rintro e w1 ⟨rfl, hb⟩; replace hB := bt hB hb; clear hb; clear hG)
          | (go_at_call 41; refine (bytes1_any T HTs.out _).mono ?_; rw [← HU.out]; rintro e w1 ⟨rfl, hb⟩; replace hB := bt hB hb; clear hb; have hG := HUQ.out)
          | (go_at_call 45; refine (takenats_any _ HM2.out _).mono ?_; rw [KN.out]; rintro e w1 ⟨rfl, hb⟩; replace hB := bt hB hb; clear hb))
        go_ret
        exact ⟨rfl, hB⟩
      | ok ns q =>
        have KN := Lib.hid hk
        have hback := Vr.takeNats_back hk
        have hns := again_nats hk
        have hnl : ns.length ≤ 10000 := by have := hback.2.1; omega
        obtain ⟨V, hV⟩ : ∃ V, V = natsS (fun i => (ns.getD i 0 : Nat)) ns.length := ⟨_, rfl⟩
        obtain ⟨W, hW⟩ : ∃ W : ByteArray, W = ⟨q.toArray⟩ := ⟨_, rfl⟩
        rw [← hV, ← hW] at hns
        have hsz : V.size + W.size = s.size := by rw [← hns, ByteArray.size_append]
        have HL : Hid (∀ k, k ≤ ns.length → (natsB (fun i => (ns.getD i 0 : Nat)) k).length ≤ 90000) := Lib.hid fun k hk => by
          have h1 := natsB_mono (fun i => (ns.getD i 0 : Nat)) ns.length k hk
          have h2 : V.size = (uvarint ns.length ++ natsB (fun i => (ns.getD i 0 : Nat)) ns.length).length := by rw [hV]; exact size_mkB _
          rw [List.length_append] at h2
          omega
        have HF : Hid (∀ i, i < ns.length → (0 : Int) ≤ (ns.getD i 0 : Nat) ∧ ((ns.getD i 0 : Nat) : Int) < 9223372036854775808) := Lib.hid fun i hi => by
          have := hback.2.2 (ns.getD i 0) (by rw [List.getD_eq_getElem?_getD, List.getElem?_eq_getElem hi]; exact List.getElem_mem hi)
          omega
        have HV := Lib.hid hV
        have HW := Lib.hid hW
        have HNS := Lib.hid hns
        have hVs : V.size ≤ 10000 := by omega
        have hWs : W.size ≤ 10000 := by omega
        clear ht hs l1 hsl hz hzz hzr hag hrl hRl hn hT hQ hU hag2 hb hk hV hW hns hsz hback
        go_enter Try.func15, Try.ntmps15
        go_wp2_with (first
          | (go_at_call 34; refine (awake1_any _).mono ?_; rintro e w1 ⟨rfl, hb⟩; replace hB := bt hB hb; clear hb)
          | (go_at_call 32; refine (takeB _ HM.out x R 0 KT _).mono ?_; rintro e w1 ⟨rfl, hb⟩; replace hB := bt hB hb; clear hb)
          | (go_at_call 30; refine (nat_ok (x : Int) (by omega) (by omega) _).mono ?_; rw [Int.toNat_natCast]; rintro e w1 ⟨rfl, hb⟩; replace hB := bt hB hb; clear hb; have hG := HG.out)
          | (go_at_call 37; refine (takeintB _ HM.out x R 0 KT _).mono ?_; rw [← HZ.out]; rintro e w1 ⟨rfl, hb⟩; replace hB := bt hB hb; clear hb)
          | (go_at_call 35; refine (int_ok z z1.out z2.out _).mono ?_; rw [HZZ.out]; rintro e w1 ⟨rfl, hb⟩; replace hB := bt hB hb; clear hb)
          | (go_at_call 39; refine (takebytesB _ HM.out x R 0 KT _).mono ?_; rw [B3.out, B1.out, B2.out]; rintro e w1 ⟨rfl, hb⟩; replace hB := bt hB hb; clear hb; clear hG)
          | (go_at_call 41; refine (bytes1_any T HTs.out _).mono ?_; rw [← HU.out]; rintro e w1 ⟨rfl, hb⟩; replace hB := bt hB hb; clear hb; have hG := HUQ.out)
          | (go_at_call 45; refine (takenats_any _ HM2.out _).mono ?_; rw [KN.out]; rintro e w1 ⟨A1, k1, rfl, hR3, hb⟩; replace hB := bt hB hb; clear hb; rw [← HW.out]; have HR3 := Lib.hid hR3; clear hR3; clear hG)
          | (go_at_call 43; refine (nats_long A1 ns.length k1 (fun i => (ns.getD i 0 : Nat)) (by omega) HL.out HF.out _ HR3.out).mono ?_; rw [← HV.out]; rintro e w1 ⟨rfl, hb⟩; replace hB := bt hB hb; clear hb; have hG := HNS.out))
        go_ret
        exact ⟨rfl, hB⟩
end Go.Proofs.Ytjeiklgaiefeaaa
