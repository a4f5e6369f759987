/- The law FrameBack: frames put one behind the other. Conditions: bounds on sizes. -/
import Derived.Test.YtjeiklgaiefeaaaFrmBack
import Derived.Test.YtjeiklgaiefeaaaStrArgs
namespace Go.Proofs.Ytjeiklgaiefeaaa
open Go.RowKit Go.Lib Go.Shelf
set_option linter.unusedVariables false
theorem lens_mem {l : List ByteArray} {x : ByteArray} (h : x ∈ l) : x.size ≤ lens l := by
  induction l with
  | nil => cases h
  | cons y l ih =>
    have e : lens (y :: l) = y.size + lens l := by simp [lens]
    rcases List.mem_cons.1 h with rfl | h
    · omega
    · have := ih h; omega
theorem splitIs_zero {l : List ByteArray} : SplitIs (l.map (fun x => (x, 0)) ++ []) (l.map (fun x => (x, 0))) 0 := ⟨by simp, .inl ⟨rfl, by simp⟩⟩
theorem map_fst0 (l : List ByteArray) : (l.map (fun x => (x, 0))).map (Prod.fst : ByteArray × Nat → ByteArray) = l := by simp [List.map_map, Function.comp_def]
set_option maxRecDepth 100000 in
set_option maxHeartbeats 4000000 in
theorem law_FrameBack (a : Option Addr) (len cap : Nat) (L : List ByteArray) (w : World) (h0 : IsRowS w a len cap L) :
    Calls Try.prog 18 #[.slice a len cap] w fun e w' => e = .returned (.bool true) ∧ Below w.heap.size w w' := by
  obtain ⟨hlen, hle, hcap, hrow, hsm⟩ := h0
  subst hlen
  unfold maxLen at hle
  have HR := Lib.hid hrow
  have HL := Lib.hid hsm
  clear hrow hsm
  cases hf : fewS L with
  | false =>
    have HF := Lib.hid hf
    clear hf
    go_enter Try.func18, Try.ntmps18
    go_wp2_with fail
    refine (awake3_any _).mono ?_
    rintro e w1 ⟨rfl, hB1⟩
    have HR1 := Lib.hid ((HR.out.below hB1).more hB1.size)
    go_wp2_with fail
    refine (few_any a cap L (by omega) HL.out _ HR1.out).mono ?_
    rw [HF.out]
    rintro e w2 ⟨rfl, hB2⟩
    have hB := bt hB1 hB2
    clear hB1 hB2
    go_wp2
    go_ret
    exact ⟨rfl, hB⟩
  | true =>
    have h3 : lens L ≤ 3000 ∧ L.length ≤ 50 := by
      unfold fewS at hf
      rw [Bool.and_eq_true, decide_eq_true_eq, decide_eq_true_eq] at hf
      exact hf
    obtain ⟨h3, h5⟩ := h3
    have hF := frs_catS L ⟨#[]⟩ [] (fun x hx => by have := lens_mem hx; omega) (.nil rfl)
    have e2 : catS L ++ ⟨#[]⟩ = catS L := ByteArray.append_empty
    rw [e2] at hF
    have hcl := catS_le L h3 L.length (Nat.le_refl _)
    rw [List.take_length] at hcl
    have hu := usedOf_cat (L.map (fun x => (x, 0)))
    rw [map_fst0] at hu
    have HF := Lib.hid hf
    have HFr := Lib.hid hF
    have H3 := Lib.hid h3
    obtain ⟨C, hC⟩ : ∃ C, C = catS L := ⟨_, rfl⟩
    rw [← hC] at hcl HFr hu
    have l4 : C.size ≤ 1000000 := by omega
    have HC := Lib.hid hC
    have HU := Lib.hid hu
    clear hf hF e2 hC hu h3 hcl
    go_enter Try.func18, Try.ntmps18
    go_wp2_with fail
    refine (awake3_any _).mono ?_
    rintro e w1 ⟨rfl, hB1⟩
    have HR1 := Lib.hid ((HR.out.below hB1).more hB1.size)
    go_wp2_with fail
    refine (few_any a cap L (by omega) HL.out _ HR1.out).mono ?_
    rw [HF.out]
    rintro e w2 ⟨rfl, hB2⟩
    have HR2 := Lib.hid ((HR1.out.below hB2).more hB2.size)
    go_wp2_with fail
    refine (lawall_any a cap L (by omega) H3.out _ HR2.out).mono ?_
    rw [← HC.out]
    rintro e w3 ⟨v3, rfl, _, hB3⟩
    have HR3 := Lib.hid ((HR2.out.below hB3).more hB3.size)
    go_wp2_with fail
    refine (table_f _).mono ?_
    rintro e w4 ⟨A, c, rfl, hT, hB4⟩
    have HR4 := Lib.hid ((HR3.out.below hB4).more hB4.size)
    go_wp2_with fail
    refine (split_any A c Crc.tab tabIs C l4 _ HFr.out _ hT).mono ?_
    rintro e w5 ⟨v5, l, d, rfl, hS, ⟨m, hO⟩, hB5⟩
    obtain ⟨rfl, rfl⟩ := splitIs_zero.uniq hS
    obtain ⟨A5, c5, rfl, hR5⟩ := row_str hO
    rw [HU.out]
    rw [map_fst0, List.length_map] at hR5
    rw [List.length_map]
    have HR5 := Lib.hid hR5
    have HR6 := Lib.hid ((HR4.out.below hB5).more hB5.size)
    have hB := bt (bt hB1 (bt hB2 hB3)) (bt hB4 hB5)
    clear hB1 hB2 hB3 hB4 hB5 hT hO hR5 hS
    go_wp2_with fail
    refine (texts_yes A5 a L.length c5 cap _ _ (by omega) (fun _ _ => rfl) _ HR5.out HR6.out).mono ?_
    rintro e w6 ⟨rfl, hB6⟩
    have hBB := bt hB hB6
    clear hB hB6
    go_wp2
    go_ret
    exact ⟨rfl, hBB⟩
end Go.Proofs.Ytjeiklgaiefeaaa
