/- What Nats, TakeNats, their references and Same compute. Conditions: bounds on sizes. -/
import Derived.Test.YtooaodgamakoeaaDoorVarLaws
import Derived.Test.YtooaodgamakoeaaDoorVarPlain2
namespace Go.Proofs.YtooaodgamakoeaaDoor
open Go.RowKit Go.Lib
set_option linter.unusedVariables false
/-- numbers one behind the other, as bytes -/
def natsB (f : Nat → Int) (k : Nat) : List UInt8 := (List.range k).flatMap fun i => uvarint (f i).toNat
theorem natsB_succ (f : Nat → Int) (k : Nat) : natsB f (k + 1) = natsB f k ++ uvarint (f k).toNat := by
  unfold natsB; rw [List.range_succ]; simp
theorem uv_len (m : Nat) (h : m < 9223372036854775808) : (uvarint m).length ≤ 10 := uvarint_length64 (by omega)
theorem natsB_len (f : Nat → Int) (n : Nat) (hf : ∀ i, i < n → f i < 9223372036854775808) : ∀ k, k ≤ n → (natsB f k).length ≤ 10 * k
  | 0, _ => by simp [natsB]
  | k + 1, hk => by
    rw [natsB_succ, List.length_append]
    have := natsB_len f n hf k (by omega)
    have h1 := hf k (by omega)
    have := uv_len (f k).toNat (by omega)
    omega
/-- the text of numbers -/
def natsS (f : Nat → Int) (n : Nat) : ByteArray := ⟨(uvarint n ++ natsB f n).toArray⟩
theorem own_len {w : World} {base e n : Nat} {v : Value} {xs : List Value} (h : w.ownsRow base e 1 v n xs) : n = xs.length := by have := h.1; omega
theorem bounds_of (f : Nat → Int) (n : Nat) (hf : ∀ i, i < n → -9223372036854775808 ≤ f i ∧ f i < 9223372036854775808) : ∀ i, i < n → f i < 9223372036854775808 := fun i hi => (hf i hi).2

set_option maxRecDepth 100000 in
set_option maxHeartbeats 2000000 in
theorem nats_ok (A : Option Addr) (n cap : Nat) (f : Nat → Int) (hn : n ≤ 5000) (hf : ∀ i, i < n → 0 ≤ f i ∧ f i < 9223372036854775808) (w : World) (hR : Row1 w w.heap.size A n (fun i => .int .i64 (f i))) :
    Calls Tryd.prog 45 #[.slice A n cap] w fun e w' => e = .returned (.tuple #[.string (natsS f n), .int .i64 0]) ∧ Below w.heap.size w w' := by
  have HR := Lib.hid hR
  have HF := Lib.hid hf
  have HL := Lib.hid (natsB_len f n (fun i hi => (hf i hi).2))
  obtain ⟨S, hS⟩ : ∃ S, S = natsS f n := ⟨_, rfl⟩
  rw [← hS]
  have HS := Lib.hid hS
  clear hR hf hS
  go_enter Tryd.func45, Tryd.ntmps45
  go_wp2_with fail
  refine (put_any w.heap.size _ 0 [] n (by omega) (by omega) _ (nil_own _ _) (Nat.le_refl _)).mono ?_
  rintro e w1 ⟨v, j, rfl, hO, hB⟩
  go_wp2
  go_loopw [4, 13] (fun v i wr => ∃ k m : Nat, k ≤ n ∧ i = .int .i64 k ∧ wr.ownsRow w.heap.size 5 1 v m ((uvarint n ++ natsB f k).map b8) ∧ Below w.heap.size w wr) (fun _ i _ => n - (intOf i).toNat)
  case atStart => exact ⟨0, j, by omega, rfl, by simpa [natsB, putV] using hO, hB⟩
  case round =>
    obtain ⟨k, m, hk, rfl, hO', hB'⟩ := hrel
    clear hO hB
    by_cases hlt : k < n
    · obtain ⟨ad, hA, -, hc⟩ := (HR.out.below hB') k hlt
      subst hA
      replace hc : wr.cell? (ad.add k) = some (.int .i64 (f k)) := hc
      have h0 := (HF.out k hlt).1
      have h1 := (HF.out k hlt).2
      have HN := Lib.hid (natsB_succ f k)
      have hm : m ≤ 100000 := by
        have := own_len hO'
        rw [List.length_map, List.length_append] at this
        have := HL.out k hk
        have := uv_len n (by omega)
        omega
      obtain ⟨x, hx⟩ := Int.eq_ofNat_of_zero_le h0
      rw [hx] at hc
      have HX := Lib.hid hx
      have hxl : x < 9223372036854775808 := by omega
      clear hx h0 h1
      go_wp2_with fail
      refine (put_any w.heap.size _ m _ x hxl hm _ hO' hB'.size).mono ?_
      rintro e w2 ⟨v2, j2, rfl, hO2, hB2⟩
      go_wp2
      go_roundw
      case rel =>
        refine ⟨k + 1, j2, by omega, by go_num, ?_, hB'.trans hB2⟩
        rw [HN.out, HX.out, Int.toNat_natCast, ← List.append_assoc, List.map_append]
        exact hO2
      case measure => simp [intOf]; omega
    · obtain rfl : k = n := by omega
      have hcv : (convert 76 9 u4).run Tryd.prog wr = .ok (.string S) wr := by rw [HS.out]; exact conv_own (P := Tryd.prog) wr 76 9 5 w.heap.size u4 m (uvarint k ++ natsB f k) Tryd.underlying76 Tryd.underlying5 Tryd.underlying9 hO'
      clear hO'
      go_wp2
      go_ret2
      exact ⟨rfl, hB'⟩
set_option maxRecDepth 100000 in
set_option maxHeartbeats 2000000 in
theorem nats_bad (A : Option Addr) (n cap : Nat) (f : Nat → Int) (hn : n ≤ 5000) (hf : ∀ i, i < n → f i < 9223372036854775808) (hb : ∃ i, i < n ∧ f i < 0) (w : World) (hR : Row1 w w.heap.size A n (fun i => .int .i64 (f i))) :
    Calls Tryd.prog 45 #[.slice A n cap] w fun e w' => e = .returned (.tuple #[.string ⟨#[]⟩, .int .i64 1]) ∧ Below w.heap.size w w' := by
  have HR := Lib.hid hR
  have HF := Lib.hid hf
  have HL := Lib.hid (natsB_len f n hf)
  have HB := Lib.hid hb
  clear hR hf hb
  go_enter Tryd.func45, Tryd.ntmps45
  go_wp2_with fail
  refine (put_any w.heap.size _ 0 [] n (by omega) (by omega) _ (nil_own _ _) (Nat.le_refl _)).mono ?_
  rintro e w1 ⟨v, j, rfl, hO, hB⟩
  go_wp2
  go_loopw [4, 13] (fun v i wr => ∃ k m : Nat, k ≤ n ∧ i = .int .i64 k ∧ Hid (∀ i, i < k → 0 ≤ f i) ∧ wr.ownsRow w.heap.size 5 1 v m ((uvarint n ++ natsB f k).map b8) ∧ Below w.heap.size w wr) (fun _ i _ => n - (intOf i).toNat)
  case atStart => exact ⟨0, j, by omega, rfl, fun i hi => absurd hi (by omega), by simpa [natsB, putV] using hO, hB⟩
  case round =>
    obtain ⟨k, m, hk, rfl, HK, hO', hB'⟩ := hrel
    clear hO hB
    by_cases hlt : k < n
    · obtain ⟨ad, hA, -, hc⟩ := (HR.out.below hB') k hlt
      subst hA
      replace hc : wr.cell? (ad.add k) = some (.int .i64 (f k)) := hc
      by_cases h0 : 0 ≤ f k
      · have h1 := HF.out k hlt
        have HN := Lib.hid (natsB_succ f k)
        have hm : m ≤ 100000 := by
          have := own_len hO'
          rw [List.length_map, List.length_append] at this
          have := HL.out k hk
          have := uv_len n (by omega)
          omega
        have HK2 : Hid (∀ i, i < k + 1 → 0 ≤ f i) := fun i hi => by
          rcases Nat.lt_or_ge i k with h | h
          · exact HK.out i h
          · obtain rfl : i = k := by omega
            exact h0
        obtain ⟨x, hx⟩ := Int.eq_ofNat_of_zero_le h0
        rw [hx] at hc
        have HX := Lib.hid hx
        have hxl : x < 9223372036854775808 := by omega
        clear hx h0 h1
        go_wp2_with fail
        refine (put_any w.heap.size _ m _ x hxl hm _ hO' hB'.size).mono ?_
        rintro e w2 ⟨v2, j2, rfl, hO2, hB2⟩
        go_wp2
        go_roundw
        case rel =>
          refine ⟨k + 1, j2, by omega, by go_num, HK2, ?_, hB'.trans hB2⟩
          rw [HN.out, HX.out, Int.toNat_natCast, ← List.append_assoc, List.map_append]
          exact hO2
        case measure => simp [intOf]; omega
      · have h0' : f k < 0 := by omega
        obtain ⟨x, hx⟩ : ∃ x, x = f k := ⟨_, rfl⟩
        rw [← hx] at hc h0'
        clear hx h0
        go_wp2
        go_ret2
        exact ⟨rfl, hB'⟩
    · exfalso
      obtain ⟨i, hi, hneg⟩ := HB.out
      have := HK.out i (by omega)
      omega
set_option maxRecDepth 100000 in
set_option maxHeartbeats 2000000 in
theorem same_yes (A B : Option Addr) (n c d : Nat) (f g : Nat → Int) (hn : n ≤ 9223372036854775807) (hfg : ∀ i, i < n → f i = g i) (w : World) (hA : Row1 w w.heap.size A n (fun i => .int .i64 (f i))) (hB : Row1 w w.heap.size B n (fun i => .int .i64 (g i))) :
    Calls Tryd.prog 27 #[.slice A n c, .slice B n d] w fun e w' => e = .returned (.bool true) ∧ ∃ k, w' = w.drewN k := by
  have HA := Lib.hid hA
  have HB := Lib.hid hB
  have HE := Lib.hid hfg
  clear hA hB hfg
  go_enter Tryd.func27, Tryd.ntmps27
  go_wp2
  go_loopw [5] (fun i wr => ∃ k j : Nat, k ≤ n ∧ i = .int .i64 k ∧ wr = w.drewN j) (fun i _ => n - (intOf i).toNat)
  case atStart => exact ⟨0, 0, by omega, rfl, rfl⟩
  case round =>
    obtain ⟨k, j, hk, rfl, rfl⟩ := hrel
    by_cases hlt : k < n
    · obtain ⟨ad, hA, -, hc⟩ := HA.out k hlt
      obtain ⟨bd, hB, -, hd⟩ := HB.out k hlt
      subst hA hB
      replace hc : w.cell? (ad.add k) = some (.int .i64 (f k)) := hc
      replace hd : w.cell? (bd.add k) = some (.int .i64 (f k)) := by
        have : w.cell? (bd.add k) = some (.int .i64 (g k)) := hd
        rw [HE.out k hlt]; exact this
      generalize f k = x at *
      go_wp2
      go_quiet (fail)
      go_wp2
      go_roundw
      case rel => exact ⟨k + 1, _, by omega, by go_num, rfl⟩
      case measure => simp [intOf]; omega
    · obtain rfl : k = n := by omega
      go_wp2
      go_ret
      exact ⟨rfl, j, rfl⟩

theorem size_mkB (l : List UInt8) : (⟨l.toArray⟩ : ByteArray).size = l.length := by simp [ByteArray.size]
theorem tkIs_ok {l : List UInt8} {n : Nat} {r : List UInt8} (h : Vr.take l = .ok n r) : TkIs l n ⟨r.toArray⟩ 0 := by
  obtain ⟨h1, h2, h3⟩ := tk_ok h
  exact ⟨h1, by rw [h2], h3⟩
theorem tkIs_err {l : List UInt8} {e : Nat} (h : Vr.take l = .err e) : TkIs l 0 ⟨#[]⟩ e := by
  obtain ⟨h1, h2, h3⟩ := tk_err h
  exact ⟨h1, by rw [h2], h3⟩
theorem infoI : (Tryd.prog.info? 3).map (fun i => (i.zero, i.size, i.bytes)) = some (some (.int .i64 0), 1, 8) := by kernel_rfl
def intsF (ns : List Nat) (i : Nat) : Value := .int .i64 (ns.getD i 0 : Nat)
theorem intsF_set (ns : List Nat) (m n : Nat) (i : Nat) (hn : ns.length < n) : (if i = ns.length then Value.int .i64 (m : Nat) else intsF ns i) = intsF (ns ++ [m]) i := by
  unfold intsF
  by_cases h : i = ns.length
  · subst h; simp
  · rw [if_neg h]
    by_cases h2 : i < ns.length
    · simp [List.getElem?_append_left h2]
    · rw [List.getD_eq_getElem?_getD, List.getD_eq_getElem?_getD, List.getElem?_eq_none (by omega), List.getElem?_eq_none (by simp; omega)]
theorem Vr_cons (k : Nat) (x : Vr.LR) (ns : List Nat) (m : Nat) : Vr.LR.pre ns (Vr.LR.pre [m] x) = Vr.LR.pre (ns ++ [m]) x := Vr.LR.pre_pre _ _ _
theorem mk_data (l : List UInt8) : (⟨l.toArray⟩ : ByteArray).data.toList = l := rfl
/-- what TakeNats answers: the numbers, or nothing and an error -/
def TnQ (r : Vr.LR) (w : World) (e : Ending) (w' : World) : Prop := match r with
  | .ok ns r => ∃ A cap, e = .returned (.tuple #[.slice A ns.length cap, .string ⟨r.toArray⟩, .int .i64 0]) ∧ Row1 w' w'.heap.size A ns.length (intsF ns) ∧ Below w.heap.size w w'
  | .err c => e = .returned (.tuple #[.slice none 0 0, .string ⟨#[]⟩, .int .i64 (c : Nat)]) ∧ Below w.heap.size w w'
theorem TnQ_err {r : Vr.LR} {c : Nat} (h : r = .err c) {w w' : World} (hb : Below w.heap.size w w') : TnQ r w (.returned (.tuple #[.slice none 0 0, .string ⟨#[]⟩, .int .i64 (c : Int)])) w' := by
  subst h; exact ⟨rfl, hb⟩
theorem takeNats_err {l : List UInt8} {c : Nat} (h : Vr.take l = .err c) : Vr.takeNats l = .err c := by unfold Vr.takeNats; rw [h]
theorem takeNats_short {l r : List UInt8} {n : Nat} (h : Vr.take l = .ok n r) (h2 : r.length < n) : Vr.takeNats l = .err 10 := by unfold Vr.takeNats; rw [h]; simp only; rw [if_pos h2]
theorem takeNats_go {l r : List UInt8} {n : Nat} (h : Vr.take l = .ok n r) (h2 : ¬ r.length < n) : Vr.takeNats l = Vr.takeN n r := by unfold Vr.takeNats; rw [h]; simp only; rw [if_neg h2]
theorem err_ne {l : List UInt8} {c : Nat} (h : Vr.take l = .err c) : c ≠ 0 := by have := Vr.takeF_err _ _ _ _ h; omega
theorem take_le {l r : List UInt8} {n : Nat} (h : Vr.take l = .ok n r) : r.length ≤ l.length := by have := (Vr.take_ok h).1; rw [this]; simp
set_option maxRecDepth 100000 in
set_option maxHeartbeats 2000000 in
theorem takenats_any (s : ByteArray) (hs : s.size ≤ 1000000) (w : World) :
    Calls Tryd.prog 99 #[.string s] w fun e w' => TnQ (Vr.takeNats s.data.toList) w e w' := by
  have hsm : Hid (s.size ≤ maxLen) := Lib.hid (by unfold maxLen; omega)
  have hsl : s.data.toList.length = s.size := by simp
  cases ht : Vr.take s.data.toList with
  | err c =>
    have HQ := Lib.hid (fun w' => @TnQ_err _ c (takeNats_err ht) w w')
    have HT := Lib.hid (tkIs_err ht)
    have t1 : ((c : Int) != 0) = true := by rw [bne_iff_ne]; have := err_ne ht; omega
    generalize Vr.takeNats s.data.toList = ans at *
    clear ht hsl
    go_enter Tryd.func99, Tryd.ntmps99
    go_wp2_with fail
    refine (take_is s hsm.out 0 ⟨#[]⟩ c HT.out _).mono ?_
    rintro e w1 ⟨rfl, k, rfl⟩
    go_wp2
    go_ret3
    exact HQ.out _ (below_drewN' (Below.refl _ _) _)
  | ok n r =>
    have HT := Lib.hid (tkIs_ok ht)
    have hrl := take_le ht
    have hrs := size_mkB r
    obtain ⟨R, hR⟩ : ∃ R : ByteArray, R = ⟨r.toArray⟩ := ⟨_, rfl⟩
    rw [← hR] at HT hrs
    by_cases hn : r.length < n
    · have HQ := Lib.hid (fun w' => @TnQ_err _ 10 (takeNats_short ht hn) w w')
      have t2 : (R.size : Int) < (n : Int) := by omega
      generalize Vr.takeNats s.data.toList = ans at *
      clear ht hsl hrl hR hrs
      go_enter Tryd.func99, Tryd.ntmps99
      go_wp2_with fail
      refine (take_is s hsm.out n R 0 HT.out _).mono ?_
      rintro e w1 ⟨rfl, k, rfl⟩
      go_wp2
      go_ret3
      exact HQ.out _ (below_drewN' (Below.refl _ _) _)
    · have HG := Lib.hid (takeNats_go ht hn)
      have t2 : ¬ (R.size : Int) < (n : Int) := by omega
      have t3 : decide (R.size < n) = false := by simp; omega
      have t4 : decide ((R.size : Int) < (n : Int)) = false := by simp; omega
      have hnl : n ≤ 1000000 := by omega
      have hRl : R.size ≤ 1000000 := by omega
      have HRe := Lib.hid hR
      obtain ⟨ans, hans⟩ : ∃ a, a = Vr.takeNats s.data.toList := ⟨_, rfl⟩
      rw [← hans] at HG ⊢
      clear ht hsl hrl hR hrs hn hans
      have hmk := run_make_row' (P := Tryd.prog) 23 3 (.int .i64 0) 8 Tryd.underlying23 infoI rfl .i64 .i64 n (by omega) (by omega)
      go_enter Tryd.func99, Tryd.ntmps99
      go_wp2_with fail
      refine (take_is s hsm.out n R 0 HT.out _).mono ?_
      rintro e w1 ⟨rfl, k, rfl⟩
      go_wp2
      clear hmk
      go_loopw [2, 3, 4, 26] (fun v rs e i wr => ∃ ns : List Nat, ∃ T : ByteArray, ns.length ≤ n ∧ v = .slice (some ⟨w.heap.size, 0, none⟩) n n ∧ i = .int .i64 ns.length ∧ e = .int .i64 0 ∧ rs = .string T ∧ T.size ≤ 1000000 ∧ Hid (ans = Vr.LR.pre ns (Vr.takeN (n - ns.length) T.data.toList)) ∧ wr.rowIs w.heap.size 3 n (intsF ns) ∧ Below w.heap.size w wr) (fun _ _ _ i _ => n - (intOf i).toNat)
      case atStart =>
        refine ⟨[], R, by simp, rfl, rfl, rfl, rfl, hRl, ?_, ?_, (below_drewN' (Below.refl _ _) k).alloc (Nat.le_refl _) _⟩
        · show ans = _
          rw [HG.out, HRe.out, Vr.LR.pre_nil]; rfl
        · exact (World.rowIs_made (w.drewN k) (.int .i64 0) n 3).congr fun i _ => by simp [intsF]
      case round =>
        obtain ⟨ns, T, hk, rfl, rfl, rfl, rfl, hT, HA, hRow, hB⟩ := hrel
        obtain ⟨j, hj⟩ : ∃ j, j = ns.length := ⟨_, rfl⟩
        rw [← hj] at hk ⊢
        by_cases hlt : j < n
        · have hc := hRow.cell hlt
          have hf := hRow.frozen j
          have hTm : Hid (T.size ≤ maxLen) := Lib.hid (by unfold maxLen; omega)
          have hTl : T.data.toList.length = T.size := by simp
          cases ht : Vr.take T.data.toList with
          | err c =>
            have HQ := Lib.hid (fun w' => @TnQ_err ans c (by rw [HA.out, ← hj, show n - j = (n - j - 1) + 1 by omega, Vr.takeN_err ht]; rfl) w w')
            have HT2 := Lib.hid (tkIs_err ht)
            have t1 : ((c : Int) != 0) = true := by rw [bne_iff_ne]; have := err_ne ht; omega
            have HJ := Lib.hid hj
            clear ht hTl hRow hj
            go_wp2_with fail
            refine (take_is T hTm.out 0 ⟨#[]⟩ c HT2.out _).mono ?_
            rintro e w2 ⟨rfl, k2, rfl⟩
            go_wp2
            go_ret3
            exact HQ.out _ ((below_drewN' hB _).setCell (Nat.le_refl _) _)
          | ok m r2 =>
            have hr2 := take_le ht
            have hs2 := size_mkB r2
            have HT2 := Lib.hid (tkIs_ok ht)
            have HN : Hid (ans = Vr.LR.pre (ns ++ [m]) (Vr.takeN (n - (j + 1)) r2)) := Lib.hid (by rw [HA.out, ← hj, show n - j = (n - (j + 1)) + 1 by omega, Vr.takeN_ok ht, Vr.LR.pre_pre])
            obtain ⟨R2, hR2⟩ : ∃ R : ByteArray, R = ⟨r2.toArray⟩ := ⟨_, rfl⟩
            rw [← hR2] at HT2 hs2
            have hR2s : R2.size ≤ 1000000 := by omega
            have HR2 := Lib.hid hR2
            have HRow := Lib.hid hRow
            have HJ := Lib.hid hj
            clear ht hTl hr2 hs2 hR2 hRow hj
            go_wp2_with fail
            refine (take_is T hTm.out m R2 0 HT2.out _).mono ?_
            rintro e w2 ⟨rfl, k2, rfl⟩
            go_wp2
            go_roundw
            case rel =>
              have hj := HJ.out
              refine ⟨ns ++ [m], R2, by simp; omega, rfl, by rw [List.length_append, ← hj]; go_num, rfl, rfl, hR2s, ?_, ?_, ?_⟩
              · show ans = _
                rw [HN.out, HR2.out, List.length_append, ← hj]; rfl
              · refine ((show (wr.drewN k2).rowIs w.heap.size 3 n (intsF ns) from HRow.out).set j _).congr fun i _ => ?_
                rw [hj]
                exact intsF_set ns m n i (by omega)
              · exact (below_drewN' hB _).setCell (Nat.le_refl _) _
            case measure => simp [intOf]; omega
        · obtain rfl : j = n := by omega
          have hQ : ans = .ok ns T.data.toList := by
            rw [HA.out, ← hj, Nat.sub_self]; simp [Vr.takeN, Vr.LR.pre]
          have hT3 : T = ⟨T.data.toList.toArray⟩ := rfl
          have HQ := Lib.hid hQ
          have HJ := Lib.hid hj
          clear hQ hT3 hj
          go_wp2
          go_ret3
          rw [HQ.out]
          refine ⟨_, _, ret3 (by rw [← HJ.out]; rfl) rfl rfl, ?_, hB⟩
          rw [← HJ.out]
          exact Row1.of_row hRow
end Go.Proofs.YtooaodgamakoeaaDoor
