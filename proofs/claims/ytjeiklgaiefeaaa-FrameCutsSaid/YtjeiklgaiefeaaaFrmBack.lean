/- The laws FrameBack and FrameAgain. Conditions: bounds on sizes. -/
import Derived.Test.YtjeiklgaiefeaaaFrmLaws
namespace Go.Proofs.Ytjeiklgaiefeaaa
open Go.RowKit Go.Lib Go.Shelf
set_option linter.unusedVariables false
/-- what is split of whole frames -/
theorem frs_cat : ∀ (l : List ByteArray) (r : ByteArray) (xs : List (ByteArray × Nat)), (∀ x ∈ l, x.size ≤ 1048576) → Frs Crc.tab r xs → ∀ s : ByteArray, s = l.foldr (fun x s => frameS Crc.tab x ++ s) r → Frs Crc.tab s (l.map (fun x => (x, 0)) ++ xs)
  | [], r, xs, _, h, s, hs => by subst hs; exact h
  | x :: l, r, xs, hl, h, s, hs => by
    have h1 := frs_cat l r xs (fun y hy => hl y (List.mem_cons_of_mem _ hy)) h _ rfl
    have hs2 : s = frameS Crc.tab x ++ l.foldr (fun x s => frameS Crc.tab x ++ s) r := hs
    subst hs2
    refine .ok ?_ (next_frame Crc.tab x _ (hl x (by simp))) h1
    rw [ByteArray.size_append, frame_size]; omega
theorem cat_foldr (l : List ByteArray) : ∀ s : ByteArray, l.foldl (fun s x => s ++ frameS Crc.tab x) s = s ++ l.foldr (fun x s => frameS Crc.tab x ++ s) ⟨#[]⟩ := by
  induction l with
  | nil => intro s; exact (ByteArray.append_empty (b := s)).symm
  | cons x l ih => intro s; show l.foldl _ (s ++ frameS Crc.tab x) = _; rw [ih, ByteArray.append_assoc]; rfl
theorem catS_foldr (l : List ByteArray) (r : ByteArray) : l.foldr (fun x s => frameS Crc.tab x ++ s) r = catS l ++ r := by
  unfold catS
  rw [cat_foldr]
  induction l with
  | nil => show r = (⟨#[]⟩ ++ ⟨#[]⟩) ++ r; exact (ByteArray.empty_append (b := r)).symm
  | cons x l ih => 
    show frameS Crc.tab x ++ _ = _
    rw [ih]
    show _ = (⟨#[]⟩ ++ (frameS Crc.tab x ++ l.foldr _ _)) ++ r
    have e : ∀ b : ByteArray, ⟨#[]⟩ ++ b = b := fun b => ByteArray.empty_append
    rw [e, e, ByteArray.append_assoc]
theorem frs_catS (l : List ByteArray) (r : ByteArray) (xs : List (ByteArray × Nat)) (hl : ∀ x ∈ l, x.size ≤ 1048576) (h : Frs Crc.tab r xs) : Frs Crc.tab (catS l ++ r) (l.map (fun x => (x, 0)) ++ xs) :=
  frs_cat l r xs hl h _ (catS_foldr l r).symm
/-- what is split is what the frames are of -/
theorem frs_used {t : Nat → Nat} {s : ByteArray} {xs : List (ByteArray × Nat)} (h : Frs t s xs) : ∀ l c, SplitIs xs l c → ∃ r, s = (l.map Prod.fst).foldr (fun x s => frameS t x ++ s) r ∧ (c = 0 ↔ r.size = 0) := by
  induction h with
  | @nil s hz =>
    intro l c h
    have hl : l = [] ∧ c = 0 := by
      rcases h.2 with ⟨h1, h2⟩ | ⟨_, y, h2⟩
      · exact ⟨h2.symm, h1⟩
      · simp at h2
    obtain ⟨rfl, rfl⟩ := hl
    exact ⟨s, rfl, by simp [hz]⟩
  | @bad s d hz h2 =>
    intro l c h
    have hd := next_errne h2
    have hl : l = [] ∧ c = d := by
      rcases h.2 with ⟨h1, h3⟩ | ⟨_, y, h3⟩
      · have := h.1 (⟨#[]⟩, d) (by rw [← h3]; simp)
        exact absurd this hd
      · cases l with
        | nil => simp at h3; exact ⟨rfl, h3.2.symm⟩
        | cons p l => have := congrArg List.length h3; simp at this
    obtain ⟨rfl, rfl⟩ := hl
    exact ⟨s, rfl, by constructor <;> (intro h; first | exact absurd h hd | exact absurd h hz)⟩
  | @ok s x r xs hz h2 h3 ih =>
    intro l c h
    cases l with
    | nil =>
      rcases h.2 with ⟨_, h1⟩ | ⟨h1, y, h4⟩
      · simp at h1
      · simp at h4; exact absurd h4.1.2.symm h1
    | cons p l =>
      have hp : p = (x, 0) ∧ SplitIs xs l c := by
        rcases h.2 with ⟨h1, h4⟩ | ⟨h1, y, h4⟩
        · injection h4 with h5 h6
          exact ⟨h5.symm, fun q hq => h.1 q (List.mem_cons_of_mem _ hq), .inl ⟨h1, h6⟩⟩
        · injection h4 with h5 h6
          exact ⟨h5.symm, fun q hq => h.1 q (List.mem_cons_of_mem _ hq), .inr ⟨h1, y, h6⟩⟩
      obtain ⟨rfl, hs⟩ := hp
      obtain ⟨q, hq, hc⟩ := ih l c hs
      refine ⟨q, ?_, hc⟩
      rw [(next_bytes h2).1, hq]; rfl
theorem usedOf_cat (l : List (ByteArray × Nat)) : usedOf l = (catS (l.map Prod.fst)).size := by
  have e := catS_foldr (l.map Prod.fst) ⟨#[]⟩
  have e2 : catS (l.map Prod.fst) ++ ⟨#[]⟩ = catS (l.map Prod.fst) := ByteArray.append_empty
  rw [e2] at e
  rw [← e]
  clear e e2
  induction l with
  | nil => rfl
  | cons p l ih =>
    show ((putS p.1.size ++ p.1).size + 4) + usedOf l = (frameS Crc.tab p.1 ++ _).size
    rw [ByteArray.size_append (a := frameS Crc.tab p.1), frame_size, ih]
theorem lens_used (l : List (ByteArray × Nat)) : lens (l.map Prod.fst) ≤ usedOf l := by
  induction l with
  | nil => simp [lens]
  | cons p l ih =>
    have h1 : lens ((p :: l).map Prod.fst) = p.1.size + lens (l.map Prod.fst) := by simp [lens]
    have h2 : usedOf (p :: l) = ((putS p.1.size ++ p.1).size + 4) + usedOf l := by simp [usedOf]
    rw [h1, h2, ByteArray.size_append]; omega
theorem cat_left (a r : ByteArray) : (a ++ r).extract 0 a.size = a := by
  apply bs_ext
  rw [bs_pre, bs_app, List.take_append_of_le_length (by rw [bs_len]; omega), List.take_of_length_le (by rw [bs_len]; omega)]
set_option maxRecDepth 100000 in
set_option maxHeartbeats 4000000 in
theorem law_FrameAgain (s : ByteArray) (hs : s.size ≤ maxLen) (w : World) :
    Calls Try.prog 20 #[.string s] w fun e w' => e = .returned (.bool true) ∧ Below w.heap.size w w' := by
  by_cases l1 : 3000 < s.size
  · have t1 : (3000 : Int) < (s.size : Int) := by omega
    clear hs
    go_enter Try.func20, Try.ntmps20
    go_wp2_with fail
    refine (awake3_any _).mono ?_
    rintro e w2 ⟨rfl, hB2⟩
    go_wp2
    go_ret
    exact ⟨rfl, hB2⟩
  have t1 : ¬ (3000 : Int) < (s.size : Int) := by omega
  have l3 : s.size ≤ 3000 := by omega
  have l4 : s.size ≤ 1000000 := by omega
  clear hs l1
  obtain ⟨xs, hF⟩ := Frs.exists Crc.tab _ s (Nat.le_refl _)
  have HF := Lib.hid hF
  clear hF
  go_enter Try.func20, Try.ntmps20
  go_wp2_with fail
  refine (awake3_any _).mono ?_
  rintro e w1 ⟨rfl, hB1⟩
  go_wp2_with fail
  refine (table_f _).mono ?_
  rintro e w2 ⟨A, cap, rfl, hT, hB2⟩
  go_wp2_with fail
  refine (split_any A cap Crc.tab tabIs s l4 xs HF.out _ hT).mono ?_
  rintro e w3 ⟨v3, l, c, rfl, hS, ⟨m, hO⟩, hB3⟩
  obtain ⟨A3, c3, rfl, hR⟩ := row_str hO
  have hu := usedOf_le HF.out hS
  have hul := used_len l
  have hlu := lens_used l
  have huc := usedOf_cat l
  obtain ⟨r, hr, hc⟩ := frs_used HF.out l c hS
  rw [catS_foldr] at hr
  obtain ⟨n, hn⟩ : ∃ n, n = usedOf l := ⟨_, rfl⟩
  obtain ⟨L, hL⟩ : ∃ L, L = l.map Prod.fst := ⟨_, rfl⟩
  have hLl : l.length = L.length := by rw [hL, List.length_map]
  rw [← hn] at hu hul hlu huc ⊢
  rw [← hL] at hlu huc hr hR
  rw [hLl] at hul hR ⊢
  have hsz : s.size = n + r.size := by rw [hr, ByteArray.size_append, huc]
  have hex : s.extract 0 n = catS L := by rw [hr, huc]; exact cat_left _ _
  have HR := Lib.hid hR
  have HE := Lib.hid hex
  have hcn : ((c : Int) == 0) = ((n : Int) == (s.size : Int)) := by
    rw [Bool.eq_iff_iff, beq_iff_eq, beq_iff_eq]
    constructor
    · intro h; have := hc.1 (by omega); omega
    · intro h; have := hc.2 (by omega); omega
  have p1 : (0 : Int) ≤ (n : Int) := by omega
  have p2 : (n : Int) ≤ (s.size : Int) := by omega
  have HL1 : Hid (L.length ≤ 3000) := Lib.hid (by omega)
  have HL2 : Hid (lens L ≤ 3000) := Lib.hid (by omega)
  clear hT hO hR hS hr hc hL hn hLl hlu huc hul hsz hex
  go_wp2_with fail
  refine (lawall_any A3 c3 L HL1.out HL2.out _ HR.out).mono ?_
  rintro e w4 ⟨v4, rfl, hO4, hB4⟩
  obtain ⟨C, hC⟩ : ∃ C, C = catS L := ⟨_, rfl⟩
  rw [← hC] at HE ⊢
  have hE := HE.out
  have hB := bt (bt hB1 hB2) (bt hB3 hB4)
  clear hB1 hB2 hB3 hB4 hO4 HE hC
  go_wp2
  go_ret
  exact ⟨rfl, hB⟩
end Go.Proofs.Ytjeiklgaiefeaaa
