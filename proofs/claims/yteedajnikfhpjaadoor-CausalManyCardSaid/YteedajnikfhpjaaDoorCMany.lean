/- CausalMany: a long row of groups, the last one first. Conditions: the tables of utf8. -/
import Derived.Test.YteedajnikfhpjaaDoorTwo
import Derived.Test.YteedajnikfhpjaaDoorManyP
namespace Go.Proofs.YteedajnikfhpjaaDoor
open Go.RowKit Go.Lib Go.Sort
set_option linter.unusedVariables false
attribute [local go_sem ↓] Go.wp_at_zero Go.wp_at_succ
/-- a row of groups that was made -/
structure Made (w : World) (wr : World) (L : List (Grp × GrX)) (A : Option Addr) (c : Nat) : Prop where
  row : wr.ownsRow w.heap.size 34 7 (.slice A L.length c) L.length (L.flatMap grC_)
  low : Below w.heap.size w wr
  good : ∀ p ∈ L, GrG wr (fun q => (Value.slice A L.length c).ownBlock ≠ some q) p
  txt : ∀ p ∈ L, ∀ o ∈ p.1.ops, o.text.size ≤ 1000000
theorem Made.below {w wr w' : World} {L : List (Grp × GrX)} {A : Option Addr} {c : Nat} (h : Made w wr L A c) (hb : Below wr.heap.size wr w') : Made w w' L A c :=
  ⟨h.row.kept (gby_below (r := none) hb) (Classical.em _), h.low.trans (hb.mono h.low.size), fun p hp => (h.good p hp).agr (Agr.below hb), h.txt⟩
set_option maxRecDepth 100000 in
set_option maxHeartbeats 16000000 in
theorem causalmany_any (a : Int) (w : World) (hw : (Lit.int .u8 a).wf = true) (htab : Tabs w) :
    Calls Tryd.prog 3 #[.int .u8 a] w fun e w' => e = .returned (.bool true) ∧ Below w.heap.size w w' := by
  obtain ⟨i0, hi, hz0, hz1, hz2⟩ := info_parts infogrC_
  have ha : 0 ≤ a ∧ a ≤ 255 := by
    have : 0 ≤ a ∧ a ≤ 255 := by simpa [Lit.wf, IntKind.min, IntKind.max, IntKind.bits, IntKind.signed] using hw
    exact this
  obtain ⟨k, hk⟩ : ∃ k : Nat, a = (k : Int) := ⟨a.toNat, by omega⟩
  subst hk
  obtain ⟨K, hK⟩ : ∃ K : Nat, K = 95 + k % 16 := ⟨_, rfl⟩
  have hK2 : K ≤ 110 := by omega
  have HTB := Lib.hid htab
  have q1 : IntKind.i64.wrap (k : Int) = (k : Int) := by rw [IntKind.wrap_i64]; omega
  have q2 : (k : Int).tmod 16 = ((k % 16 : Nat) : Int) := by rw [Int.tmod_eq_emod_of_nonneg (by omega)]; rfl
  have q3 : IntKind.i64.wrap (95 + ((k % 16 : Nat) : Int)) = (K : Int) := by rw [IntKind.wrap_i64, hK]; omega
  have q4 : IntKind.i64.wrap ((k % 16 : Nat) : Int) = ((k % 16 : Nat) : Int) := by rw [IntKind.wrap_i64]; omega
  have HKI := Lib.hid (show (95 : Int) + (k : Int) % 16 = (K : Int) by omega)
  clear hw ha htab hK
  go_enter Tryd.func3, Tryd.ntmps3
  go_upto_region 4 with fail
  go_loopw [4, 5] (fun s i wr => ∃ (m : Nat) (L : List (Grp × GrX)) (A : Option Addr) (c : Nat), L.length + m = K ∧ s = .slice A L.length c ∧ i = .int .i64 m ∧ Hid (Made w wr L A c)) (fun s i _ => (RowKit.intOf i).toNat)
  case atStart => exact ⟨K, [], none, 0, by simp, rfl, congrArg (Value.int .i64) HKI.out, Lib.hid ⟨World.ownsRow_nil _ _ _ _, Below.refl _ _, fun p hp => (by cases hp), fun p hp => (by cases hp)⟩⟩
  case round =>
    obtain ⟨m, L, A, c, hm, rfl, rfl, HM⟩ := hrel
    by_cases h0 : 0 < m
    · have i1 : (0 : Int) < (m : Int) := by omega
      have i2 : IntKind.i64.wrap ((m : Int) - 1) = (m : Int) - 1 := by rw [IntKind.wrap_i64]; omega
      have hsz := HM.out.low.size
      by_cases h1 : 1 < m
      · have i3 : (1 : Int) < (m : Int) := by omega
        have hwd : ∃ wd, wd = wr.alloc (.cells #[.int .i64 ((m : Int) - 1)] 3) := ⟨_, rfl⟩
        go_upto_region 10 with fail
        have hb0 : Below wr.heap.size wr (wr.alloc (.cells #[.int .i64 ((m : Int) - 1)] 3)) := (Below.refl _ _).alloc (Nat.le_refl _) _
        have hs0 : (wr.alloc (.cells #[.int .i64 ((m : Int) - 1)] 3)).heap.size = wr.heap.size + 1 := by simp
        have hd0 : (wr.alloc (.cells #[.int .i64 ((m : Int) - 1)] 3)).heap[wr.heap.size]? = some (.cells #[.int .i64 ((m : Int) - 1)] 3 (0, 0)) := heap_alloc_new wr _
        generalize hW9 : (wr.alloc (.cells #[.int .i64 ((m : Int) - 1)] 3)).alloc (.cells #[.int .i64 (m : Int), .int .i64 1] 25) = W9 at *
        have hb9 : Below wr.heap.size wr W9 := by rw [← hW9]; exact hb0.alloc (by rw [hs0]; omega) _
        have hs9 : W9.heap.size = wr.heap.size + 1 + 1 := by rw [← hW9]; simp
        have hc9 : W9.heap[wr.heap.size + 1]? = some (.cells #[.int .i64 (m : Int), .int .i64 1] 25 (0, 0)) := by rw [← hW9]; exact heap_alloc_newC _ _ hs0
        have hd9 : W9.heap[wr.heap.size]? = some (.cells #[.int .i64 ((m : Int) - 1)] 3 (0, 0)) := by rw [← hW9]; exact (Below.heap_alloc _ _ _ (by rw [hs0]; omega)).trans hd0
        have HD9 := Lib.hid hd9
        clear hd9 hd0
        have x0 : W9.cell? ⟨wr.heap.size + 1, 0, none⟩ = some (.int .i64 (m : Int)) := by rw [cell_of_row _ _ _ _ _ _ hc9]; rfl
        have x1 : W9.cell? ⟨wr.heap.size + 1, 1, none⟩ = some (.int .i64 1) := by rw [cell_of_row _ _ _ _ _ _ hc9]; rfl
        have HM9 := Lib.hid (HM.out.below hb9)
        have HB9 := Lib.hid hb9
        have hs99 : wr.heap.size < W9.heap.size := by rw [hs9]; omega
        clear hW9 hb0 hs0 hb9 hc9 hs9
        have HOB := Lib.hid (heap_alloc_new W9 (.cells #[.int .i64 0, .int .i64 (m : Int), .int .i64 1, .int .i64 0, .int .i64 0, .int .i64 0, .int .i64 0, .string ⟨#[120]⟩, .bool false, .slice none 0 0, .int .i64 0, .int .i64 0, .int .i64 0, .int .i64 0, .int .i64 0, .int .i64 0, .string ⟨#[]⟩, .slice none 0 0] 31))
        have hsO : (W9.alloc (.cells #[.int .i64 0, .int .i64 (m : Int), .int .i64 1, .int .i64 0, .int .i64 0, .int .i64 0, .int .i64 0, .string ⟨#[120]⟩, .bool false, .slice none 0 0, .int .i64 0, .int .i64 0, .int .i64 0, .int .i64 0, .int .i64 0, .int .i64 0, .string ⟨#[]⟩, .slice none 0 0] 31)).heap.size = W9.heap.size + 1 := by simp
        have HNC := Lib.hid (show ∀ (j : Nat) (y : Value), ([.int .i64 (m : Int), .int .i64 1, .int .i64 (m : Int), .slice (some ⟨wr.heap.size, 0, none⟩) 1 1, .int .i64 0, .int .i64 0, .slice (some ⟨W9.heap.size, 0, none⟩) 1 1] : List Value)[j]? = some y → ((W9.alloc (.cells #[.int .i64 0, .int .i64 (m : Int), .int .i64 1, .int .i64 0, .int .i64 0, .int .i64 0, .int .i64 0, .string ⟨#[120]⟩, .bool false, .slice none 0 0, .int .i64 0, .int .i64 0, .int .i64 0, .int .i64 0, .int .i64 0, .int .i64 0, .string ⟨#[]⟩, .slice none 0 0] 31)).alloc (.cells #[.int .i64 (m : Int), .int .i64 1, .int .i64 (m : Int), .slice (some ⟨wr.heap.size, 0, none⟩) 1 1, .int .i64 0, .int .i64 0, .slice (some ⟨W9.heap.size, 0, none⟩) 1 1] 34)).cell? ((⟨W9.heap.size + 1, 0, none⟩ : Addr).add j) = some y from fun j y h => by have h9 := cellsN (W9.alloc (.cells #[.int .i64 0, .int .i64 (m : Int), .int .i64 1, .int .i64 0, .int .i64 0, .int .i64 0, .int .i64 0, .string ⟨#[120]⟩, .bool false, .slice none 0 0, .int .i64 0, .int .i64 0, .int .i64 0, .int .i64 0, .int .i64 0, .int .i64 0, .string ⟨#[]⟩, .slice none 0 0] 31)) [.int .i64 (m : Int), .int .i64 1, .int .i64 (m : Int), .slice (some ⟨wr.heap.size, 0, none⟩) 1 1, .int .i64 0, .int .i64 0, .slice (some ⟨W9.heap.size, 0, none⟩) 1 1] 34 j y h; rw [hsO] at h9; exact h9)
        have hLl : L.length ≤ 110 := by omega
        have HSO := Lib.hid hsO
        clear hsO
        go_wp2_with (at_builtin; refine wpList_append_lies _ rfl _ _ 22 rfl w.heap.size 34 i0 (.agg #[.int .i64 0, .int .i64 0, .int .i64 0, .slice none 0 0, .int .i64 0, .int .i64 0, .slice none 0 0]) 7 88 Tryd.underlying22 hi hz0 hz1 hz2 rfl (by decide) (.slice A L.length c) L.length _ rfl (by exact (HM9.out.row.alloc _).alloc _) ⟨W9.heap.size + 1, 0, none⟩ 1 1 [.int .i64 (m : Int), .int .i64 1, .int .i64 (m : Int), .slice (some ⟨wr.heap.size, 0, none⟩) 1 1, .int .i64 0, .int .i64 0, .slice (some ⟨W9.heap.size, 0, none⟩) 1 1] rfl rfl (by exact HNC.out) (ocgrC_ (manyG (m : Int) [(m : Int) - 1], ⟨(some ⟨wr.heap.size, 0, none⟩), 1, some ⟨W9.heap.size, 0, none⟩, 1⟩)) (by decide) (by unfold maxLen; omega) (by omega) (by have := HM9.out.low.size; simp; omega) (W9.heap.size + 2) (by simp) ?_; intro gq c3 wz hown hgrow hat hlt; have HOW := Lib.hid hown; have HGR := Lib.hid hgrow; have HAT := Lib.hid hat; clear hown hgrow hat hlt)
        have hbz : Below W9.heap.size W9 ((W9.alloc (.cells #[.int .i64 0, .int .i64 (m : Int), .int .i64 1, .int .i64 0, .int .i64 0, .int .i64 0, .int .i64 0, .string ⟨#[120]⟩, .bool false, .slice none 0 0, .int .i64 0, .int .i64 0, .int .i64 0, .int .i64 0, .int .i64 0, .int .i64 0, .string ⟨#[]⟩, .slice none 0 0] 31)).alloc (.cells #[.int .i64 (m : Int), .int .i64 1, .int .i64 (m : Int), .slice (some ⟨wr.heap.size, 0, none⟩) 1 1, .int .i64 0, .int .i64 0, .slice (some ⟨W9.heap.size, 0, none⟩) 1 1] 34)) := ((Below.refl _ _).alloc (Nat.le_refl _) _).alloc (by rw [HSO.out]; omega) _
        have hsz2 : ((W9.alloc (.cells #[.int .i64 0, .int .i64 (m : Int), .int .i64 1, .int .i64 0, .int .i64 0, .int .i64 0, .int .i64 0, .string ⟨#[120]⟩, .bool false, .slice none 0 0, .int .i64 0, .int .i64 0, .int .i64 0, .int .i64 0, .int .i64 0, .int .i64 0, .string ⟨#[]⟩, .slice none 0 0] 31)).alloc (.cells #[.int .i64 (m : Int), .int .i64 1, .int .i64 (m : Int), .slice (some ⟨wr.heap.size, 0, none⟩) 1 1, .int .i64 0, .int .i64 0, .slice (some ⟨W9.heap.size, 0, none⟩) 1 1] 34)).heap.size = W9.heap.size + 2 := by simp
        have hlow : Below w.heap.size w wz := (HM9.out.low.trans (hbz.mono HM9.out.low.size)).grown HGR.out (by have := HM9.out.low.size; have := hbz.size; omega) (fun q hq => (HM9.out.row.lt q hq).1)
        have hst : ∀ q, q < W9.heap.size → (Value.slice A L.length c).ownBlock ≠ some q → wz.heap[q]? = W9.heap[q]? := fun q hq hn => (HGR.out.block q (by omega) (fun e => hn e.symm)).trans (hbz.block q hq)
        have hagr : Agr (fun q => (Value.slice A L.length c).ownBlock ≠ some q ∧ gq ≠ q) W9 wz := ⟨by have := HGR.out.size; omega, fun q hq hl => hst q hl hq.1⟩
        have hgq : ∀ q, q < W9.heap.size → (Value.slice A L.length c).ownBlock ≠ some q → gq ≠ q := fun q hq hn e => by
          subst e
          rcases HAT.out with h9 | h9
          · exact hn h9
          · omega
        have hop : wz.heap[W9.heap.size]? = some (.cells #[.int .i64 0, .int .i64 (m : Int), .int .i64 1, .int .i64 0, .int .i64 0, .int .i64 0, .int .i64 0, .string ⟨#[120]⟩, .bool false, .slice none 0 0, .int .i64 0, .int .i64 0, .int .i64 0, .int .i64 0, .int .i64 0, .int .i64 0, .string ⟨#[]⟩, .slice none 0 0] 31 (0, 0)) := (HGR.out.block _ (by omega) (fun e => by have := HM9.out.row.lt _ e.symm; omega)).trans ((Below.heap_alloc _ _ _ (by rw [HSO.out]; omega)).trans HOB.out)
        have hgo : gq ≠ W9.heap.size := fun e => by
          rcases HAT.out with h9 | h9
          · have := (HM9.out.row.lt gq h9).2; omega
          · omega
        have hne : (Value.slice A L.length c).ownBlock ≠ some wr.heap.size := fun e => by have := (HM.out.row.lt _ e).2; omega
        have hdp : wz.heap[wr.heap.size]? = some (.cells #[.int .i64 ((m : Int) - 1)] 3 (0, 0)) := (hst _ hs99 hne).trans HD9.out
        have hvd : VecS wz (fun q => gq ≠ q) (some ⟨wr.heap.size, 0, none⟩) [(m : Int) - 1] := fun q hq => by
          obtain rfl : q = 0 := by have : q < 1 := hq; omega
          refine ⟨wr.heap.size, 0, rfl, hgq _ hs99 hne, lt_of_block hdp, fun j hj => ?_⟩
          obtain rfl : j = 0 := by omega
          rw [cell_of_row _ _ _ _ _ _ hdp]; rfl
        have hnew : GrG wz (fun q => gq ≠ q) (manyG (m : Int) [(m : Int) - 1], ⟨(some ⟨wr.heap.size, 0, none⟩), 1, some ⟨W9.heap.size, 0, none⟩, 1⟩) := many_in wz _ (m : Int) ⟨by omega, by omega⟩ [(m : Int) - 1] (some ⟨wr.heap.size, 0, none⟩) 1 hvd (Nat.le_refl _) (by decide) (fun y hy => by obtain rfl := List.mem_singleton.1 hy; exact ⟨by omega, by omega⟩) W9.heap.size hgo hop
        have hmade : Made w wz (L ++ [(manyG (m : Int) [(m : Int) - 1], ⟨(some ⟨wr.heap.size, 0, none⟩), 1, some ⟨W9.heap.size, 0, none⟩, 1⟩)]) (some ⟨gq, 0, none⟩) c3 := by
          have hl1 : (L ++ [(manyG (m : Int) [(m : Int) - 1], (⟨(some ⟨wr.heap.size, 0, none⟩), 1, some ⟨W9.heap.size, 0, none⟩, 1⟩ : GrX))]).length = L.length + 1 := by rw [List.length_append, List.length_singleton]
          refine ⟨?_, hlow, fun p hp => ?_, fun p hp => ?_⟩
          · rw [hl1, List.flatMap_append, List.flatMap_singleton]; exact HOW.out
          · refine GrG.sub (S := fun q => gq ≠ q) ?_ (fun q _ hq e => hq (by injection e))
            rcases List.mem_append.1 hp with hp | hp
            · exact (((HM9.out.good p hp).sub fun q hq hn => ⟨hn, hgq q hq hn⟩).agr hagr).sub fun q _ hq => hq.2
            · rw [List.mem_singleton] at hp; rw [hp]; exact hnew
          · rcases List.mem_append.1 hp with hp | hp
            · exact HM9.out.txt p hp
            · rw [List.mem_singleton] at hp; rw [hp]; intro o ho; obtain rfl := List.mem_singleton.1 ho; exact Nat.zero_le _
        have HMD := Lib.hid hmade
        clear hmade hnew hop hgo hgq hagr hst hlow hsz2 hbz hvd hdp hne
        go_roundw
        case rel => exact ⟨m - 1, _, _, c3, by rw [List.length_append, List.length_singleton]; omega, by rw [List.length_append, List.length_singleton], by go_num, HMD⟩
        case measure => (simp [RowKit.intOf]; omega)
      · have i3 : ¬ (1 : Int) < (m : Int) := by omega
        go_upto_region 10 with fail
        have hb0 : Below wr.heap.size wr wr := Below.refl _ _
        have hs0 : wr.heap.size = wr.heap.size := by rfl
        generalize hW9 : wr.alloc (.cells #[.int .i64 (m : Int), .int .i64 1] 25) = W9 at *
        have hb9 : Below wr.heap.size wr W9 := by rw [← hW9]; exact hb0.alloc (by rw [hs0]; omega) _
        have hs9 : W9.heap.size = wr.heap.size + 1 := by rw [← hW9]; simp
        have hc9 : W9.heap[wr.heap.size]? = some (.cells #[.int .i64 (m : Int), .int .i64 1] 25 (0, 0)) := by rw [← hW9]; exact heap_alloc_newC _ _ hs0
        have x0 : W9.cell? ⟨wr.heap.size, 0, none⟩ = some (.int .i64 (m : Int)) := by rw [cell_of_row _ _ _ _ _ _ hc9]; rfl
        have x1 : W9.cell? ⟨wr.heap.size, 1, none⟩ = some (.int .i64 1) := by rw [cell_of_row _ _ _ _ _ _ hc9]; rfl
        have HM9 := Lib.hid (HM.out.below hb9)
        have HB9 := Lib.hid hb9
        have hs99 : wr.heap.size < W9.heap.size := by rw [hs9]; omega
        clear hW9 hb0 hs0 hb9 hc9 hs9
        have HOB := Lib.hid (heap_alloc_new W9 (.cells #[.int .i64 0, .int .i64 (m : Int), .int .i64 1, .int .i64 0, .int .i64 0, .int .i64 0, .int .i64 0, .string ⟨#[120]⟩, .bool false, .slice none 0 0, .int .i64 0, .int .i64 0, .int .i64 0, .int .i64 0, .int .i64 0, .int .i64 0, .string ⟨#[]⟩, .slice none 0 0] 31))
        have hsO : (W9.alloc (.cells #[.int .i64 0, .int .i64 (m : Int), .int .i64 1, .int .i64 0, .int .i64 0, .int .i64 0, .int .i64 0, .string ⟨#[120]⟩, .bool false, .slice none 0 0, .int .i64 0, .int .i64 0, .int .i64 0, .int .i64 0, .int .i64 0, .int .i64 0, .string ⟨#[]⟩, .slice none 0 0] 31)).heap.size = W9.heap.size + 1 := by simp
        have HNC := Lib.hid (show ∀ (j : Nat) (y : Value), ([.int .i64 (m : Int), .int .i64 1, .int .i64 (m : Int), .slice none 0 0, .int .i64 0, .int .i64 0, .slice (some ⟨W9.heap.size, 0, none⟩) 1 1] : List Value)[j]? = some y → ((W9.alloc (.cells #[.int .i64 0, .int .i64 (m : Int), .int .i64 1, .int .i64 0, .int .i64 0, .int .i64 0, .int .i64 0, .string ⟨#[120]⟩, .bool false, .slice none 0 0, .int .i64 0, .int .i64 0, .int .i64 0, .int .i64 0, .int .i64 0, .int .i64 0, .string ⟨#[]⟩, .slice none 0 0] 31)).alloc (.cells #[.int .i64 (m : Int), .int .i64 1, .int .i64 (m : Int), .slice none 0 0, .int .i64 0, .int .i64 0, .slice (some ⟨W9.heap.size, 0, none⟩) 1 1] 34)).cell? ((⟨W9.heap.size + 1, 0, none⟩ : Addr).add j) = some y from fun j y h => by have h9 := cellsN (W9.alloc (.cells #[.int .i64 0, .int .i64 (m : Int), .int .i64 1, .int .i64 0, .int .i64 0, .int .i64 0, .int .i64 0, .string ⟨#[120]⟩, .bool false, .slice none 0 0, .int .i64 0, .int .i64 0, .int .i64 0, .int .i64 0, .int .i64 0, .int .i64 0, .string ⟨#[]⟩, .slice none 0 0] 31)) [.int .i64 (m : Int), .int .i64 1, .int .i64 (m : Int), .slice none 0 0, .int .i64 0, .int .i64 0, .slice (some ⟨W9.heap.size, 0, none⟩) 1 1] 34 j y h; rw [hsO] at h9; exact h9)
        have hLl : L.length ≤ 110 := by omega
        have HSO := Lib.hid hsO
        clear hsO
        go_wp2_with (at_builtin; refine wpList_append_lies _ rfl _ _ 22 rfl w.heap.size 34 i0 (.agg #[.int .i64 0, .int .i64 0, .int .i64 0, .slice none 0 0, .int .i64 0, .int .i64 0, .slice none 0 0]) 7 88 Tryd.underlying22 hi hz0 hz1 hz2 rfl (by decide) (.slice A L.length c) L.length _ rfl (by exact (HM9.out.row.alloc _).alloc _) ⟨W9.heap.size + 1, 0, none⟩ 1 1 [.int .i64 (m : Int), .int .i64 1, .int .i64 (m : Int), .slice none 0 0, .int .i64 0, .int .i64 0, .slice (some ⟨W9.heap.size, 0, none⟩) 1 1] rfl rfl (by exact HNC.out) (ocgrC_ (manyG (m : Int) [], ⟨none, 0, some ⟨W9.heap.size, 0, none⟩, 1⟩)) (by decide) (by unfold maxLen; omega) (by omega) (by have := HM9.out.low.size; simp; omega) (W9.heap.size + 2) (by simp) ?_; intro gq c3 wz hown hgrow hat hlt; have HOW := Lib.hid hown; have HGR := Lib.hid hgrow; have HAT := Lib.hid hat; clear hown hgrow hat hlt)
        have hbz : Below W9.heap.size W9 ((W9.alloc (.cells #[.int .i64 0, .int .i64 (m : Int), .int .i64 1, .int .i64 0, .int .i64 0, .int .i64 0, .int .i64 0, .string ⟨#[120]⟩, .bool false, .slice none 0 0, .int .i64 0, .int .i64 0, .int .i64 0, .int .i64 0, .int .i64 0, .int .i64 0, .string ⟨#[]⟩, .slice none 0 0] 31)).alloc (.cells #[.int .i64 (m : Int), .int .i64 1, .int .i64 (m : Int), .slice none 0 0, .int .i64 0, .int .i64 0, .slice (some ⟨W9.heap.size, 0, none⟩) 1 1] 34)) := ((Below.refl _ _).alloc (Nat.le_refl _) _).alloc (by rw [HSO.out]; omega) _
        have hsz2 : ((W9.alloc (.cells #[.int .i64 0, .int .i64 (m : Int), .int .i64 1, .int .i64 0, .int .i64 0, .int .i64 0, .int .i64 0, .string ⟨#[120]⟩, .bool false, .slice none 0 0, .int .i64 0, .int .i64 0, .int .i64 0, .int .i64 0, .int .i64 0, .int .i64 0, .string ⟨#[]⟩, .slice none 0 0] 31)).alloc (.cells #[.int .i64 (m : Int), .int .i64 1, .int .i64 (m : Int), .slice none 0 0, .int .i64 0, .int .i64 0, .slice (some ⟨W9.heap.size, 0, none⟩) 1 1] 34)).heap.size = W9.heap.size + 2 := by simp
        have hlow : Below w.heap.size w wz := (HM9.out.low.trans (hbz.mono HM9.out.low.size)).grown HGR.out (by have := HM9.out.low.size; have := hbz.size; omega) (fun q hq => (HM9.out.row.lt q hq).1)
        have hst : ∀ q, q < W9.heap.size → (Value.slice A L.length c).ownBlock ≠ some q → wz.heap[q]? = W9.heap[q]? := fun q hq hn => (HGR.out.block q (by omega) (fun e => hn e.symm)).trans (hbz.block q hq)
        have hagr : Agr (fun q => (Value.slice A L.length c).ownBlock ≠ some q ∧ gq ≠ q) W9 wz := ⟨by have := HGR.out.size; omega, fun q hq hl => hst q hl hq.1⟩
        have hgq : ∀ q, q < W9.heap.size → (Value.slice A L.length c).ownBlock ≠ some q → gq ≠ q := fun q hq hn e => by
          subst e
          rcases HAT.out with h9 | h9
          · exact hn h9
          · omega
        have hop : wz.heap[W9.heap.size]? = some (.cells #[.int .i64 0, .int .i64 (m : Int), .int .i64 1, .int .i64 0, .int .i64 0, .int .i64 0, .int .i64 0, .string ⟨#[120]⟩, .bool false, .slice none 0 0, .int .i64 0, .int .i64 0, .int .i64 0, .int .i64 0, .int .i64 0, .int .i64 0, .string ⟨#[]⟩, .slice none 0 0] 31 (0, 0)) := (HGR.out.block _ (by omega) (fun e => by have := HM9.out.row.lt _ e.symm; omega)).trans ((Below.heap_alloc _ _ _ (by rw [HSO.out]; omega)).trans HOB.out)
        have hgo : gq ≠ W9.heap.size := fun e => by
          rcases HAT.out with h9 | h9
          · have := (HM9.out.row.lt gq h9).2; omega
          · omega
        have hvd : VecS wz (fun q => gq ≠ q) none [] := RowG.zero
        have hnew : GrG wz (fun q => gq ≠ q) (manyG (m : Int) [], ⟨none, 0, some ⟨W9.heap.size, 0, none⟩, 1⟩) := many_in wz _ (m : Int) ⟨by omega, by omega⟩ [] none 0 hvd (Nat.le_refl _) (by decide) (fun y hy => by cases hy) W9.heap.size hgo hop
        have hmade : Made w wz (L ++ [(manyG (m : Int) [], ⟨none, 0, some ⟨W9.heap.size, 0, none⟩, 1⟩)]) (some ⟨gq, 0, none⟩) c3 := by
          have hl1 : (L ++ [(manyG (m : Int) [], (⟨none, 0, some ⟨W9.heap.size, 0, none⟩, 1⟩ : GrX))]).length = L.length + 1 := by rw [List.length_append, List.length_singleton]
          refine ⟨?_, hlow, fun p hp => ?_, fun p hp => ?_⟩
          · rw [hl1, List.flatMap_append, List.flatMap_singleton]; exact HOW.out
          · refine GrG.sub (S := fun q => gq ≠ q) ?_ (fun q _ hq e => hq (by injection e))
            rcases List.mem_append.1 hp with hp | hp
            · exact (((HM9.out.good p hp).sub fun q hq hn => ⟨hn, hgq q hq hn⟩).agr hagr).sub fun q _ hq => hq.2
            · rw [List.mem_singleton] at hp; rw [hp]; exact hnew
          · rcases List.mem_append.1 hp with hp | hp
            · exact HM9.out.txt p hp
            · rw [List.mem_singleton] at hp; rw [hp]; intro o ho; obtain rfl := List.mem_singleton.1 ho; exact Nat.zero_le _
        have HMD := Lib.hid hmade
        clear hmade hnew hop hgo hgq hagr hst hlow hsz2 hbz hvd
        go_roundw
        case rel => exact ⟨m - 1, _, _, c3, by rw [List.length_append, List.length_singleton]; omega, by rw [List.length_append, List.length_singleton], by go_num, HMD⟩
        case measure => (simp [RowKit.intOf]; omega)
    · obtain rfl : m = 0 := by omega
      have i1 : ¬ (0 : Int) < ((0 : Nat) : Int) := by omega
      have hLK : L.length ≤ 110 := by omega
      have HRW := Lib.hid (RowGr.own HM.out.row)
      have HGP := Lib.hid (show ∀ p ∈ L, GrG wr (fun q => q < wr.heap.size) p from fun p hp => (HM.out.good p hp).sub fun q hq _ => hq)
      have HTX := Lib.hid HM.out.txt
      have HLW := Lib.hid HM.out.low
      clear HM
      go_upto_region 15 with (go_at_call 5; refine (bxnew_any wr).mono ?_; rintro e w1 ⟨rfl, hw1⟩; have HW1 := Lib.hid hw1; clear hw1)
      have HT0 := Lib.hid (Two.new HW1.out rfl)
      have hsQ : wr.heap.size ≤ w1.heap.size := by rw [HW1.out]; simp; omega
      generalize w1.alloc (.cells #[.slice none 0 0, .slice none 0 0] 39) = Wn at *
      obtain ⟨Q, hQ⟩ : ∃ Q, Q = w1.heap.size := ⟨_, rfl⟩
      rw [← hQ] at HT0 ⊢
      have hQ2 : wr.heap.size ≤ Q := by omega
      clear HW1 hsQ hQ
      generalize wr = w0 at *
      go_loopw [10] (fun i wr => ∃ (j : Nat) (b : Bx), i = .int .i64 j ∧ j ≤ L.length ∧ Hid (Two w0.heap.size (w0.heap.size + 1) Q (2 * j) w0 b b wr)) (fun i _ => L.length - (RowKit.intOf i).toNat)
      case atStart => exact ⟨0, Bx.new, rfl, Nat.zero_le _, HT0⟩
      case round =>
        obtain ⟨j, b, rfl, hj, HTj⟩ := hrel
        have hsz := HTj.out.low.size
        by_cases hlt : j < L.length
        · have i4 : (0 : Int) ≤ (j : Int) := by omega
          have i5 : (j : Int) < (L.length : Int) := by omega
          obtain ⟨rb, ro, rfl, hrb, hrange⟩ := RowGr.range HRW.out hlt
          have hm2 : L.getD j gp0 ∈ L := by rw [List.getD_eq_getElem?_getD, List.getElem?_eq_getElem hlt]; exact List.getElem_mem hlt
          have HG1 := Lib.hid (HGP.out _ hm2)
          have HT1 := Lib.hid (HTX.out _ hm2)
          generalize L.getD j gp0 = p at *
          obtain ⟨GA, hGA⟩ : ∃ l : List Value, l = grL p.1 p.2 := ⟨_, rfl⟩
          have HRG := Lib.hid (show ∀ W, Below w0.heap.size w0 W → W.rangeAt rb (ro + j * 7) GA from fun W hB => by rw [hGA]; exact fun i y hy => (World.cell?_of_block (w := w0) (w' := W) (a := ⟨rb, ro + j * 7 + i, none⟩) (hB.block rb hrb)).trans (hrange i y hy))
          have HN := Lib.hid (show (Tryd.prog.info? 34).map (·.size) = some GA.length by rw [hGA]; kernel_rfl)
          have HAG := Lib.hid (show grA p.1 p.2.dA p.2.dc p.2.oA p.2.oc = GA.toArray by rw [hGA]; rfl)
          have HH1 := Lib.hid (HTj.out.hear (by omega) (Nat.le_refl _) p HG1.out HT1.out (HTB.out.below (HLW.out.trans (HTj.out.low.mono HLW.out.size))))
          rw [HAG.out] at HH1
          obtain ⟨R, hR⟩ : ∃ R, R = hearB b p.1 := ⟨_, rfl⟩
          rw [← hR] at HH1
          have HHR := Lib.hid hR
          obtain ⟨b2, nn, ee⟩ := R
          clear hGA hrange hm2 hR
          have HH2 : Hid (Calls Tryd.prog 6 #[.pointer (some ⟨w0.heap.size + 1, 0, none⟩), .agg GA.toArray] wr fun e w' => e = .returned (.tuple #[.int .i64 (nn : Nat), .int .i64 ee]) ∧ Two w0.heap.size (w0.heap.size + 1) Q (2 * j + 1) w0 b2 b w') := HH1
          clear HH1
          have HRH := Lib.hid (show ∀ W, Two w0.heap.size (w0.heap.size + 1) Q (2 * j + 1) w0 b2 b W → Calls Tryd.prog 7 #[.pointer (some ⟨Q, 0, none⟩), .agg GA.toArray] W fun e w' => e = .returned (.tuple #[.int .i64 (nn : Nat), .int .i64 ee]) ∧ Two w0.heap.size (w0.heap.size + 1) Q (2 * j + 1 + 1) w0 b2 b2 w' from fun W h => by
            have h9 := h.rhear (by omega) (Nat.le_refl _) p HG1.out HT1.out
            rw [HAG.out, ← HHR.out] at h9
            exact h9)
          have HRGj := Lib.hid (HRG.out wr HTj.out.low)
          go_wp2_with (first
            | (refine wpList_load_mid rfl _ _ rfl rb (ro + j * 7) rfl GA _ HRGj.out Tryd.underlying34 rfl HN.out ?_)
            | (refine wpList_load_mid rfl _ _ rfl rb (ro + j * 7) rfl GA _ HRG5.out Tryd.underlying34 rfl HN.out ?_)
            | (go_at_call 6; refine HH2.out.mono ?_; rintro e w5 ⟨rfl, hT5⟩; have HT5 := Lib.hid hT5; have HRG5 := Lib.hid (HRG.out w5 hT5.low); clear hT5)
            | (go_at_call 7; refine (HRH.out w5 HT5.out).mono ?_; rintro e w6 ⟨rfl, hT6⟩; have HT6 := Lib.hid hT6; clear hT6))
          go_roundw
          case rel => exact ⟨j + 1, b2, by go_num, by omega, HT6⟩
          case measure => (simp [RowKit.intOf]; omega)
        · obtain rfl : j = L.length := by omega
          have i5 : ¬ (L.length : Int) < (L.length : Int) := by omega
          obtain ⟨X, S, XR, hX, hXR, -, -, -⟩ := HTj.out.box
          obtain ⟨dA, dc, hdv⟩ := row_slice hXR.done
          obtain ⟨wA, wc, hwv⟩ := row_slice hXR.wait
          have hobj := hXR.obj
          rw [hdv, hwv, hXR.dlen, hXR.wlen] at hobj
          have HQO := Lib.hid hobj
          have HXB := Lib.hid hX
          obtain ⟨nd, hnd⟩ : ∃ n, n = b.done.length := ⟨_, rfl⟩
          obtain ⟨nw, hnw⟩ : ∃ n, n = b.wait.length := ⟨_, rfl⟩
          have hlen9 := HTj.out.lenc
          have HDN := Lib.hid (fun W (hB : Below wr.heap.size wr W) => show Calls Tryd.prog 9 #[.pointer (some ⟨w0.heap.size + 1, 0, none⟩)] W fun e w' => ∃ A c, e = .returned (.slice A nd c) ∧ Below W.heap.size W w' from (bxdone_any (HXB.out.below hB) (by omega)).mono (by rintro e w' ⟨A, c, rfl, -, h9⟩; exact ⟨A, c, by rw [hnd], h9⟩))
          have HWT := Lib.hid (fun W (hB : Below wr.heap.size wr W) => show Calls Tryd.prog 10 #[.pointer (some ⟨w0.heap.size + 1, 0, none⟩)] W fun e w' => ∃ A c, e = .returned (.slice A nw c) ∧ Below W.heap.size W w' from (bxwait_any (HXB.out.below hB) (by omega)).mono (by rintro e w' ⟨A, c, rfl, -, h9⟩; exact ⟨A, c, by rw [hnw], h9⟩))
          rw [← hnd, ← hnw] at HQO
          have HLL := Lib.hid (HLW.out.trans (HTj.out.low.mono HLW.out.size))
          have hQr : Q < wr.heap.size := lt_of_block hobj
          clear hX hXR hdv hwv hobj hnd hnw hlen9 HTj HXB
          go_upto_region 21 with fail
          refine wp_region_held (S := fun w' => w'.heap[Q]? = some (.cells #[.slice dA nd dc, .slice wA nw wc] 39 (0, 0))) (by kernel_rfl) ?_
          try (change wpAnyH _ _ _ _ _ _ _ _ (World.drew _))
          refine wpAnyH_ready (rs := [0]) (by kernel_rfl) (by simp) ?_
          refine AllReadyH.cons rfl (fun K hK => ?_) AllReadyH.nil
          go_simp
          have hbd : Below wr.heap.size wr wr.drew := ⟨rfl, rfl, rfl, Nat.le_refl _, fun _ _ => rfl⟩
          refine (awake21_any wr.drew (HTB.out.below (HLL.out.trans (hbd.mono HLL.out.size)))).mono ?_
          rintro e wa ⟨rfl, hBa⟩
          have HBa := Lib.hid (hbd.trans hBa)
          have HQa := Lib.hid ((HBa.out.block Q hQr).trans HQO.out)
          clear hBa hbd
          go_simp
          refine hK.out _ _ (HQa.out) (fun _ => ?_)
          clear hK K
          refine wpAnyH_take (i := 1) (v := .bool true) rfl (by kernel_rfl) (by kernel_rfl) (by kernel_rfl) (fun _ _ _ h => h) (Or.inl ⟨by rfl, fun W' hW' => by go_simp⟩) (HQa.out) ?_
          go_simp
          refine wpAnyH_take (i := 2) (v := .pointer (some ⟨w0.heap.size + 1, 0, none⟩)) rfl (by kernel_rfl) (by kernel_rfl) (by kernel_rfl) (fun _ _ _ h => h) (Or.inl ⟨by rfl, fun W' hW' => by go_simp⟩) (HQa.out) ?_
          go_simp
          refine wpAnyH_take (i := 5) (v := .pointer (some ⟨Q, 0, none⟩)) rfl (by kernel_rfl) (by kernel_rfl) (by kernel_rfl) (fun _ _ _ h => h) (Or.inl ⟨by rfl, fun W' hW' => by go_simp⟩) (HQa.out) ?_
          go_simp
          refine wpAnyH_take (i := 6) (v := .pointer (some ⟨Q, 0, none⟩)) rfl (by kernel_rfl) (by kernel_rfl) (by kernel_rfl) (fun _ _ _ h => h) (Or.inl ⟨by rfl, fun W' hW' => by go_simp⟩) (HQa.out) ?_
          go_simp
          refine wpAnyH_take (i := 7) (v := .pointer (some ⟨Q, 0, none⟩)) rfl (by kernel_rfl) (by kernel_rfl) (by kernel_rfl) (fun _ _ _ h => h) (Or.inl ⟨by rfl, fun W' hW' => by go_simp⟩) (HQa.out) ?_
          go_simp
          refine wpAnyH_take (i := 8) (v := .slice dA nd dc) rfl (by kernel_rfl) (by kernel_rfl) (by kernel_rfl) (fun _ _ _ h => h) (Or.inl ⟨by rfl, fun W' hW' => by (have c_ : W'.cell? ⟨Q, 0, none⟩ = some (.slice dA nd dc) := (by rw [cell_of_row _ _ _ _ _ _ hW']; rfl); go_simp)⟩) (HQa.out) ?_
          go_simp
          refine wpAnyH_take (i := 9) (v := .int .i64 (nd : Int)) rfl (by kernel_rfl) (by kernel_rfl) (by kernel_rfl) (fun _ _ _ h => h) (Or.inl ⟨by rfl, fun W' hW' => by go_simp⟩) (HQa.out) ?_
          go_simp
          refine wpAnyH_ready (rs := [3]) (by kernel_rfl) (by simp) ?_
          refine AllReadyH.cons rfl (fun K hK => ?_) AllReadyH.nil
          go_simp
          refine (HDN.out wa HBa.out).mono ?_
          rintro e wb ⟨Ab, cb, rfl, hBb⟩
          have HBb := Lib.hid (HBa.out.trans (hBb.mono HBa.out.size))
          have HQb := Lib.hid ((HBb.out.block Q hQr).trans HQO.out)
          clear hBb
          go_simp
          refine hK.out _ _ (HQb.out) (fun _ => ?_)
          clear hK K
          refine wpAnyH_take (i := 4) (v := .int .i64 (nd : Int)) rfl (by kernel_rfl) (by kernel_rfl) (by kernel_rfl) (fun _ _ _ h => h) (Or.inl ⟨by rfl, fun W' hW' => by go_simp⟩) (HQb.out) ?_
          go_simp
          refine wpAnyH_take (i := 10) (v := .bool true) rfl (by kernel_rfl) (by kernel_rfl) (by kernel_rfl) (fun _ _ _ h => h) (Or.inl ⟨by rfl, fun W' hW' => by go_simp⟩) (HQb.out) ?_
          go_simp
          refine wpAnyH_take (i := 11) (v := .bool true) rfl (by kernel_rfl) (by kernel_rfl) (by kernel_rfl) (fun _ _ _ h => h) (Or.inl ⟨by rfl, fun W' hW' => by go_simp⟩) (HQb.out) ?_
          go_simp
          refine wpAnyH_take (i := 12) (v := .bool true) rfl (by kernel_rfl) (by kernel_rfl) (by kernel_rfl) (fun _ _ _ h => h) (Or.inl ⟨by rfl, fun W' hW' => by go_simp⟩) (HQb.out) ?_
          go_simp
          refine wpAnyH_take (i := 13) (v := .pointer (some ⟨w0.heap.size + 1, 0, none⟩)) rfl (by kernel_rfl) (by kernel_rfl) (by kernel_rfl) (fun _ _ _ h => h) (Or.inl ⟨by rfl, fun W' hW' => by go_simp⟩) (HQb.out) ?_
          go_simp
          refine wpAnyH_take (i := 16) (v := .pointer (some ⟨Q, 0, none⟩)) rfl (by kernel_rfl) (by kernel_rfl) (by kernel_rfl) (fun _ _ _ h => h) (Or.inl ⟨by rfl, fun W' hW' => by go_simp⟩) (HQb.out) ?_
          go_simp
          refine wpAnyH_take (i := 17) (v := .pointer (some ⟨Q, 0, none⟩)) rfl (by kernel_rfl) (by kernel_rfl) (by kernel_rfl) (fun _ _ _ h => h) (Or.inl ⟨by rfl, fun W' hW' => by go_simp⟩) (HQb.out) ?_
          go_simp
          refine wpAnyH_take (i := 18) (v := .pointer (some ⟨Q, 1, none⟩)) rfl (by kernel_rfl) (by kernel_rfl) (by kernel_rfl) (fun _ _ _ h => h) (Or.inl ⟨by rfl, fun W' hW' => by go_simp⟩) (HQb.out) ?_
          go_simp
          refine wpAnyH_take (i := 19) (v := .slice wA nw wc) rfl (by kernel_rfl) (by kernel_rfl) (by kernel_rfl) (fun _ _ _ h => h) (Or.inl ⟨by rfl, fun W' hW' => by (have c_ : W'.cell? ⟨Q, 1, none⟩ = some (.slice wA nw wc) := (by rw [cell_of_row _ _ _ _ _ _ hW']; rfl); go_simp)⟩) (HQb.out) ?_
          go_simp
          refine wpAnyH_take (i := 20) (v := .int .i64 (nw : Int)) rfl (by kernel_rfl) (by kernel_rfl) (by kernel_rfl) (fun _ _ _ h => h) (Or.inl ⟨by rfl, fun W' hW' => by go_simp⟩) (HQb.out) ?_
          go_simp
          refine wpAnyH_ready (rs := [14]) (by kernel_rfl) (by simp) ?_
          refine AllReadyH.cons rfl (fun K hK => ?_) AllReadyH.nil
          go_simp
          refine (HWT.out wb HBb.out).mono ?_
          rintro e wc3 ⟨Ac, cc, rfl, hBc⟩
          have HBc := Lib.hid (HBb.out.trans (hBc.mono HBb.out.size))
          have HQc := Lib.hid ((HBc.out.block Q hQr).trans HQO.out)
          clear hBc
          go_simp
          refine hK.out _ _ (HQc.out) (fun _ => ?_)
          clear hK K
          refine wpAnyH_take (i := 15) (v := .int .i64 (nw : Int)) rfl (by kernel_rfl) (by kernel_rfl) (by kernel_rfl) (fun _ _ _ h => h) (Or.inl ⟨by rfl, fun W' hW' => by go_simp⟩) (HQc.out) ?_
          go_simp
          refine wpAnyH_take (i := 21) (v := .bool true) rfl (by kernel_rfl) (by kernel_rfl) (by kernel_rfl) (fun _ _ _ h => h) (Or.inl ⟨by rfl, fun W' hW' => by go_simp⟩) (HQc.out) ?_
          go_simp
          refine wpAnyH_take (i := 22) (v := .bool true) rfl (by kernel_rfl) (by kernel_rfl) (by kernel_rfl) (fun _ _ _ h => h) (Or.inl ⟨by rfl, fun W' hW' => by go_simp⟩) (HQc.out) ?_
          go_simp
          refine wpAnyH_take (i := 23) (v := .bool true) rfl (by kernel_rfl) (by kernel_rfl) (by kernel_rfl) (fun _ _ _ h => h) (Or.inl ⟨by rfl, fun W' hW' => by go_simp⟩) (HQc.out) ?_
          go_simp
          refine wpAnyH_done (by kernel_rfl) ?_ _
          go_simp
          go_wp2
          go_ret
          exact ⟨rfl, HLL.out.trans (HBc.out.mono HLL.out.size)⟩
end Go.Proofs.YteedajnikfhpjaaDoor
