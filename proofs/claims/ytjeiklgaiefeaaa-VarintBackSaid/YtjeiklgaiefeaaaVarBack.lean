/- The walk of VarintBack: the call returns true, and writes nothing that was there. Texts within the form's own reach. -/
import Derived.Test.YtjeiklgaiefeaaaVarLetters
namespace Go.Proofs.Ytjeiklgaiefeaaa
open Go.RowKit Go.Lib
set_option linter.unusedVariables false
theorem mk_back (r : ByteArray) : (⟨r.data.toList.toArray⟩ : ByteArray) = r := rfl
theorem nums_of (zs : List Int) (len : Nat) (h : ∀ i, i < len → 0 ≤ zs.getD i 0) : ∀ i, i < len → ((((List.range len).map fun i => (zs.getD i 0).toNat).getD i 0 : Nat) : Int) = zs.getD i 0 := by
  intro i hi
  have h1 := h i hi
  have e : ((List.range len).map fun i => (zs.getD i 0).toNat).getD i 0 = (zs.getD i 0).toNat := by
    rw [List.getD_eq_getElem?_getD, List.getElem?_map, List.getElem?_range hi]; rfl
  rw [e]
  omega
set_option maxRecDepth 100000 in
set_option maxHeartbeats 4000000 in
theorem law_VarintBack (n : Int) (t : ByteArray) (a : Option Addr) (len cap : Nat) (zs : List Int) (rest : ByteArray) (w : World) (wf : (Lit.int .i64 n).wf = true) (ht : t.size ≤ 140737488351232) (h0 : IsRowI .i64 w a len cap zs) (hr : rest.size ≤ 140737488351232) :
    Calls Try.prog 14 #[.int .i64 n, .string t, .slice a len cap, .string rest] w fun e w' => e = .returned (.bool true) ∧ Below w.heap.size w w' := by
  have hlen := h0.le
  by_cases l1 : 1000 < len
  · have t1 : (1000 : Int) < (len : Int) := by omega
    clear h0
    go_enter Try.func14, Try.ntmps14
    go_wp2_with fail
    refine (awake1_any _).mono ?_
    rintro e w1 ⟨rfl, hB1⟩
    go_wp2
    go_ret
    exact ⟨rfl, hB1⟩
  have t1 : ¬ (1000 : Int) < (len : Int) := by omega
  have hn := (wf_i64 wf).2
  obtain ⟨P, c1, hP, sP, cP⟩ := natIs n hn rest
  obtain ⟨Q, c2, hQ, sQ, cQ⟩ := intIs n rest
  obtain ⟨S, c3, hS, okS, badS⟩ := natsIs a len cap (fun i => zs.getD i 0) (by omega) h0.bounds
  have hbd := h0.bounds
  have HP := Lib.hid hP
  have HQ := Lib.hid hQ
  have HS := Lib.hid hS
  have HR := Lib.hid h0.row
  have zT := putS_le t.size (by omega)
  obtain ⟨T, hT⟩ : ∃ T, T = putS t.size ++ t := ⟨_, rfl⟩
  have sT : T.size ≤ 140737488351242 := by rw [hT, ByteArray.size_append]; omega
  have KT := Lib.hid (back_nat t.size (by omega) (t ++ rest))
  have KE : Hid (putS t.size ++ (t ++ rest) = T ++ rest) := Lib.hid (by rw [hT, ByteArray.append_assoc])
  have BT := Lib.hid (back_text t rest)
  have HT := Lib.hid ht
  have HTe := Lib.hid hT
  have MP : Hid ((P ++ rest).size ≤ maxLen) := Lib.hid (by rw [ByteArray.size_append]; unfold maxLen; omega)
  have MQ : Hid ((Q ++ rest).size ≤ maxLen) := Lib.hid (by rw [ByteArray.size_append]; unfold maxLen; omega)
  have MT : Hid ((T ++ rest).size ≤ maxLen) := Lib.hid (by rw [ByteArray.size_append]; unfold maxLen; omega)
  clear hP hQ hS h0 wf ht hT
  have hS0 : (c3 = 0 ∧ S.size ≤ 50010 ∧ Hid ((S ++ rest).size ≤ 281474976710656) ∧ (∃ ns : List Nat, ns.length = len ∧ Hid (Vr.takeNats (S ++ rest).data.toList = .ok ns rest.data.toList) ∧ Hid (∀ i, i < len → ((ns.getD i 0 : Nat) : Int) = zs.getD i 0)) ∧ Hid (∀ n r, Vr.take (S ++ rest).data.toList = .ok n r → n ≤ r.length → n ≤ 1000000) ∧ Hid (∀ i, i < len → 0 ≤ zs.getD i 0)) ∨ c3 ≠ 0 := by
    by_cases hc : c3 = 0
    · obtain ⟨rfl, hpos⟩ := okS hc
      have h2 := back_nats (fun i => zs.getD i 0) len (by omega) hpos (fun i => (hbd i).2) rest
      have h3 := natsS_le (fun i => zs.getD i 0) len (by omega) (fun i => (hbd i).2)
      refine .inl ⟨hc, h3, Lib.hid (by rw [ByteArray.size_append]; omega), ⟨_, by simp, h2, nums_of zs len hpos⟩, fun m r hm _ => ?_, hpos⟩
      have h4 : (natsS (fun i => zs.getD i 0) len ++ rest).data.toList = uvarint len ++ (natsB (fun i => zs.getD i 0) len ++ rest.data.toList) := by
        rw [ByteArray.data_append, Array.toList_append, ← List.append_assoc]; rfl
      rw [h4, Vr.take_put len (by omega)] at hm
      injection hm with e1 e2
      omega
    · exact .inr hc
  clear okS badS hbd
  have hB : Below w.heap.size w w := Below.refl _ _
  rcases cP with ⟨rfl, x, hx, KP⟩ | rfl <;> rcases cQ with ⟨rfl, y, hy, KQ⟩ | rfl <;> rcases hS0 with ⟨rfl, sS, MS, ⟨ns, hl, KS, KV⟩, KC, KZ⟩ | hc3
  all_goals
    try have HY := Lib.hid hy
    try have HX := Lib.hid hx
    try have HL := Lib.hid hl
    try clear hy
    try clear hx
    try clear hl
    try have t3 : ((c3 : Int) == 0) = false := by rw [beq_eq_false_iff_ne]; omega
    try clear hc3
    go_enter Try.func14, Try.ntmps14
    go_wp2_with (first
      | (go_at_call 34; refine (awake1_any _).mono ?_; rintro e w1 ⟨rfl, hb⟩; replace hB := bt hB hb; clear hb)
      | (go_at_call 30; refine (HP.out _).mono ?_; rintro e w1 ⟨rfl, hb⟩; replace hB := bt hB hb; clear hb)
      | (go_at_call 32; refine (takeB _ MP.out x rest 0 KP _).mono ?_; rw [HX.out]; rintro e w1 ⟨rfl, hb⟩; replace hB := bt hB hb; clear hb)
      | (go_at_call 35; refine (HQ.out _).mono ?_; rintro e w1 ⟨rfl, hb⟩; replace hB := bt hB hb; clear hb)
      | (go_at_call 37; refine (takeintB _ MQ.out y rest 0 KQ _).mono ?_; rw [HY.out]; rintro e w1 ⟨rfl, hb⟩; replace hB := bt hB hb; clear hb)
      | (go_at_call 41; refine (bytes1_any t HT.out _).mono ?_; rw [← HTe.out]; rintro e w1 ⟨rfl, hb⟩; replace hB := bt hB hb; clear hb)
      | (go_at_call 39; refine (takebytesB _ MT.out t.size (t ++ rest) 0 (by rw [← KE.out]; exact KT.out) _).mono ?_; rw [BT.out.1, BT.out.2.1, BT.out.2.2]; rintro e w1 ⟨rfl, hb⟩; replace hB := bt hB hb; clear hb)
      | (go_at_call 43; refine (HS.out.go _ ((HR.out.below hB).more hB.size)).mono ?_; rintro e w1 ⟨rfl, hb⟩; replace hB := bt hB hb; clear hb)
      | (go_at_call 45; refine (takenats_big _ MS.out KC.out _).mono ?_; rw [KS.out]; rintro e w1 ⟨A1, k1, rfl, hR3, hb⟩; replace hB := bt hB hb; clear hb; rw [HL.out] at hR3 ⊢; try rw [mk_back]; have HR3 := Lib.hid hR3; clear hR3)
      | (go_at_call 47; refine (sameB A1 a len k1 cap (fun i => (ns.getD i 0 : Nat)) (fun i => zs.getD i 0) hlen KV.out _ HR3.out ((HR.out.below hB).more hB.size)).mono ?_; rintro e w1 ⟨rfl, hb⟩; replace hB := bt hB hb; clear hb))
    go_ret
    exact ⟨rfl, hB⟩
end Go.Proofs.Ytjeiklgaiefeaaa
