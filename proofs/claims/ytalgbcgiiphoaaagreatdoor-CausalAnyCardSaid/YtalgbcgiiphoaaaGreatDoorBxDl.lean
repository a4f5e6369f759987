/- slices.Delete at groups: one is taken out of a row. Conditions: lengths in reach. -/
import Derived.Test.YtalgbcgiiphoaaaGreatDoorBxDl0
import Derived.Deep.RegionLaw
namespace Go.Proofs.YtalgbcgiiphoaaaGreatDoor
open Go.RowKit Go.Lib Go.Sort
set_option linter.unusedVariables false
attribute [local go_sem ↓] Go.wp_at_zero Go.wp_at_succ
theorem zeroGr (w : World) : (zeroValue 40).run Tryz.prog w = .ok (.agg #[.int .i64 0, .int .i64 0, .int .i64 0, .slice none 0 0, .int .i64 0, .int .i64 0, .slice none 0 0]) w := by kernel_rfl
set_option maxRecDepth 100000 in
set_option maxHeartbeats 8000000 in
theorem bxdelete_any {B : Nat} {wv : Value} {M : List (Grp × GrX)} {w : World} (k : Nat) (hO : w.ownsRow B 40 7 wv M.length (M.flatMap grC_)) (hk : k < M.length) (hl : M.length ≤ 1000000) :
    Calls Tryz.prog 82 #[wv, .int .i64 (k : Int), .int .i64 ((k : Int) + 1)] w fun e w' => ∃ wv', e = .returned wv' ∧ w'.ownsRow B 40 7 wv' (M.eraseIdx k).length ((M.eraseIdx k).flatMap grC_) ∧ w.grownBy w' wv.ownBlock ∧ wv'.ownBlock = wv.ownBlock := by
  obtain ⟨i0, hi, hz0, hz1, hz2⟩ := info_parts infogrC_
  obtain ⟨p, hn⟩ : ∃ p, M.length = p + 1 := ⟨M.length - 1, by omega⟩
  have hlx : (M.flatMap grC_).length = (p + 1) * 7 := by rw [lengrC_, hn]
  have hle : (M.eraseIdx k).length = p := by rw [List.length_eraseIdx, if_pos hk, hn]; rfl
  rw [hn] at hO hk hl
  rcases hO.2 with ⟨-, h0⟩ | ⟨g, cap, cur, rfl, hBg, hg, hnc, hcm, hsz, htk⟩
  · omega
  have hcap : cap ≤ 9223372036854775807 := by unfold maxLen at hcm; omega
  have glt := lt_of_block hg
  obtain ⟨q, hq⟩ : ∃ q, k + q = p := ⟨p - k, by omega⟩
  obtain ⟨news, hnews⟩ : ∃ l : List Value, l = (M.drop (k + 1)).flatMap grC_ := ⟨_, rfl⟩
  have hnl : news.length = q * 7 := by rw [hnews, lengrC_, List.length_drop, hn]; congr 1; omega
  have hnd : ∀ j, news[j]? = if j < q * 7 then cur[(k + 1) * 7 + j]? else none := fun j => by
    rw [hnews, flat_drop, List.getElem?_drop, ← htk, List.getElem?_take, Array.getElem?_toList]
    by_cases h : j < q * 7
    · rw [if_pos h, if_pos (by omega)]
    · rw [if_neg h, if_neg (by omega)]
  obtain ⟨ad, ha1, ha2⟩ : ∃ ad : Addr, (cap = k + 1 → ad = ⟨g, 0, none⟩) ∧ (¬ cap = k + 1 → ad = ⟨g, (k + 1) * 7, none⟩) := by
    by_cases hc : cap = k + 1
    · exact ⟨_, fun _ => rfl, fun h => absurd hc h⟩
    · exact ⟨_, fun h => absurd h hc, fun _ => rfl⟩
  have hsrc : ∀ j u, news[j]? = some u → w.drew.cell? (ad.add j) = some u := fun j u hu => by
    have hj : j < q * 7 := by have := (List.getElem?_eq_some_iff.1 hu).1; omega
    rw [ha2 (by omega), Addr.add_mid]
    show w.cell? _ = _
    rw [cell_of_row _ _ _ _ _ _ hg]
    rw [hnd, if_pos hj] at hu
    exact hu
  have h1n : ∀ u ∈ news, u.oneCell' = true := fun u hu => by
    rw [hnews] at hu
    obtain ⟨x, -, hx⟩ := List.mem_flatMap.1 hu
    exact ocgrC_ x u hx
  obtain ⟨c1, hc1⟩ : ∃ c, c = putL cur (0 + k * 7) news := ⟨_, rfl⟩
  have hc1s : c1.size = cap * 7 := by rw [hc1, putL_size, hsz]
  have hset1 : w.drew.setCells g (0 + k * 7) news = w.drew.setRow g c1 := by rw [setCells_put g 40 news _ cur w.drew hg, hc1]
  obtain ⟨c2, hc2⟩ : ∃ c, c = putL c1 (p * 7) [.int .i64 0, .int .i64 0, .int .i64 0, .slice none 0 0, .int .i64 0, .int .i64 0, .slice none 0 0] := ⟨_, rfl⟩
  have hg1 : (w.drew.setRow g c1).heap[g]? = some (.cells c1 40 (0, 0)) := heap_setRow_same c1 (show w.drew.heap[g]? = _ from hg)
  have hset2 : (w.drew.setRow g c1).setCells g (p * 7) [.int .i64 0, .int .i64 0, .int .i64 0, .slice none 0 0, .int .i64 0, .int .i64 0, .slice none 0 0] = (w.drew.setRow g c1).setRow g c2 := by rw [setCells_put g 40 _ _ c1 _ hg1, hc2]
  have hz : ∀ W, (zeroValue 40).run Tryz.prog W = .ok (.agg #[.int .i64 0, .int .i64 0, .int .i64 0, .slice none 0 0, .int .i64 0, .int .i64 0, .slice none 0 0]) W := zeroGr
  have hclr : ∀ ty, (Builtin.clear_ #[23] ty #[.slice (some ⟨g, p * 7, none⟩) 1 (cap - p)]).run Tryz.prog (w.drew.setRow g c1) = .ok (.tuple #[]) ((w.drew.setRow g c1).setRow g c2) := fun ty => by
    rw [← hset2]
    refine run_clear_elem _ _ 40 ty _ Tryz.underlying23 hz (fun v hv => oc_of (c := #[.int .i64 0, .int .i64 0, .int .i64 0, .slice none 0 0, .int .i64 0, .int .i64 0, .slice none 0 0]) rfl v hv) g (p * 7) (cap - p) (fun j hj => ?_) (fun j hj => frozen_of_row _ _ _ _ _ hg1)
    have hj : j < 7 := hj
    rw [cell_of_row _ _ _ _ _ _ hg1, Array.getElem?_eq_getElem (by omega)]
    rfl
  have hfin : ((w.drew.setRow g c1).setRow g c2).ownsRow B 40 7 (.slice (some ⟨g, 0, none⟩) p cap) (M.eraseIdx k).length ((M.eraseIdx k).flatMap grC_) ∧ w.grownBy ((w.drew.setRow g c1).setRow g c2) (some g) := by
    refine ⟨⟨lengrC_ _, .inr ⟨g, cap, c2, by rw [hle], hBg, heap_setRow_same c2 hg1, by omega, hcm, by rw [hc2, putL_size, hc1s], ?_⟩⟩, rfl, rfl, rfl, by simp [World.setRow], fun i _ hi => ?_⟩
    · rw [hle]
      apply List.ext_getElem?
      intro i
      rw [List.getElem?_take, Array.getElem?_toList, flat_erase]
      by_cases h : i < p * 7
      · rw [if_pos h, hc2, putL_get _ _ _ _ (by rw [hc1s]; show p * 7 + 7 ≤ _; omega), if_neg (by omega), hc1, putL_get _ _ _ _ (by rw [hsz, hnl]; omega)]
        by_cases h2 : i < k * 7
        · rw [if_neg (by omega), List.getElem?_append_left (by rw [List.length_take, hlx]; omega), List.getElem?_take, if_pos h2, ← htk, List.getElem?_take, if_pos (by omega), Array.getElem?_toList]
        · rw [if_pos (by rw [hnl]; omega), List.getElem?_append_right (by rw [List.length_take, hlx]; omega), List.length_take, hlx, ← flat_drop, ← hnews]
          congr 1
          omega
      · rw [if_neg h, List.getElem?_eq_none (by rw [List.length_append, List.length_take, List.length_drop, hlx]; omega)]
    · have hi : i ≠ g := fun e => hi (by rw [e])
      rw [setRow_other _ _ _ _ hi, setRow_other _ _ _ _ hi]
      rfl
  have hsp : ∀ j, j < news.length → (w.drew.cell? ⟨g, 0 + k * 7 + j, none⟩).isSome = true ∧ w.drew.frozen? ⟨g, 0 + k * 7 + j, none⟩ = false := fun j hj => by
    rw [hnl] at hj
    refine ⟨?_, frozen_of_row _ _ _ _ _ (show w.drew.heap[g]? = _ from hg)⟩
    show (w.cell? _).isSome = true
    rw [cell_of_row _ _ _ _ _ _ hg, Array.getElem?_eq_getElem (by omega)]
    rfl
  have HA1 := Lib.hid ha1
  have HA2 := Lib.hid ha2
  have HQ := Lib.hid hq
  have HQ2 := Lib.hid (show p + 1 - (k + 1) = q by omega)
  have HSRC := Lib.hid hsrc
  have HNL := Lib.hid hnl
  have H1N := Lib.hid h1n
  have HSP := Lib.hid hsp
  have HSET := Lib.hid hset1
  have HCLR := Lib.hid hclr
  have HFIN := Lib.hid hfin
  have HLE := Lib.hid hle
  have j1 : (0 : Int) ≤ (k : Int) := by omega
  have j2 : (k : Int) ≤ (k : Int) + 1 := by omega
  have j3 : (k : Int) ≤ (p : Int) := by omega
  have j4 : (p : Int) + 1 ≤ (cap : Int) := by omega
  have j5 : (0 : Int) ≤ (k : Int) + 1 := by omega
  have j6 : ((k : Int) == (k : Int) + 1) = false := by rw [beq_eq_false_iff_ne]; omega
  have j7 : (k : Int) ≤ (cap : Int) := by omega
  have j8 : ((k : Int) + 1).toNat = k + 1 := by omega
  have j9 : (k : Int) ≤ (p : Int) + 1 := by omega
  have j10 : (k : Int) + 1 ≤ (cap : Int) := by omega
  have j11 : (k : Int) + 1 ≤ (p : Int) + 1 := by omega
  have j12 : (0 : Int) ≤ (p : Int) := by omega
  have j13 : (p : Int) ≤ (p : Int) + 1 := by omega
  have j14 : ¬ cap = p := by omega
  have j15 : ((p : Int) + 1).toNat = p + 1 := by omega
  have j16 : (p : Int) ≤ (cap : Int) := by omega
  have hkq : k + q ≤ cap := by omega
  clear hO ha1 ha2 hq hsrc hnl h1n hsp hset1 hclr hfin hle hlx htk hg hsz hn hnews hnd hc1 hc1s hset2 hc2 hg1 hz glt hBg hnc hk
  go_enter Tryz.func82, Tryz.ntmps82
  go_upto_region 5 with fail
  refine wp_region_held (S := fun _ => True) (by kernel_rfl) ?_
  try (change wpAnyH _ _ _ _ _ _ _ _ (World.drew _))
  refine wpAnyH_take (i := 0) (v := .slice (some ⟨g, 0, none⟩) (p + 1) cap) rfl (by kernel_rfl) (by kernel_rfl) (by kernel_rfl) (fun _ _ _ h => h) (Or.inl ⟨by rfl, fun W' hW' => by go_simp⟩) (trivial) ?_
  go_simp
  refine wpAnyH_take (i := 1) (v := .int .i64 (k : Int)) rfl (by kernel_rfl) (by kernel_rfl) (by kernel_rfl) (fun _ _ _ h => h) (Or.inl ⟨by rfl, fun W' hW' => by go_simp⟩) (trivial) ?_
  go_simp
  refine wpAnyH_take (i := 2) (v := .slice (some ⟨g, 0, none⟩) k cap) rfl (by kernel_rfl) (by kernel_rfl) (by kernel_rfl) (fun _ _ _ h => h) (Or.inl ⟨by rfl, fun W' hW' => by go_simp⟩) (trivial) ?_
  go_simp
  refine wpAnyH_take (i := 3) (v := .slice (some ⟨g, 0, none⟩) (p + 1) cap) rfl (by kernel_rfl) (by kernel_rfl) (by kernel_rfl) (fun _ _ _ h => h) (Or.inl ⟨by rfl, fun W' hW' => by go_simp⟩) (trivial) ?_
  go_simp
  refine wpAnyH_take (i := 4) (v := .int .i64 ((k : Int) + 1)) rfl (by kernel_rfl) (by kernel_rfl) (by kernel_rfl) (fun _ _ _ h => h) (Or.inl ⟨by rfl, fun W' hW' => by go_simp⟩) (trivial) ?_
  go_simp
  refine wpAnyH_take (i := 5) (v := .slice (some ad) q (cap - (k + 1))) rfl (by kernel_rfl) (by kernel_rfl) (by kernel_rfl) (fun _ _ _ h => h) (Or.inl ⟨by rfl, fun W' hW' => by (rw [← HQ2.out]; rcases Classical.em (cap = k + 1) with hc | hc; (focus (rw [HA1.out hc]; go_simp; (try omega); (try simp))); (rw [HA2.out hc]; go_simp; (try simp [hc])))⟩) (trivial) ?_
  go_simp
  refine wpAnyH_ready (rs := [6]) (by kernel_rfl) (by simp) ?_
  refine AllReadyH.cons rfl (fun K hK => ?_) AllReadyH.nil
  refine step_append_room (by rfl) _ _ 23 (by rfl) 40 i0 7 Tryz.underlying23 hi hz1 g 0 k cap (by rfl) ad q (cap - (k + 1)) news (by rfl) HNL.out HSRC.out H1N.out hkq HSP.out ?_
  rw [HSET.out, HQ.out]
  refine hK.out _ _ (trivial) (fun _ => ?_)
  clear hK K
  refine wpAnyH_take (i := 7) (v := .slice (some ⟨g, 0, none⟩) p cap) rfl (by kernel_rfl) (by kernel_rfl) (by kernel_rfl) (fun _ _ _ h => h) (Or.inl ⟨by rfl, fun W' hW' => by go_simp⟩) (trivial) ?_
  go_simp
  refine wpAnyH_done (by kernel_rfl) ?_ _
  go_simp
  generalize hV : w.drew.setRow g c1 = V at *
  clear hV
  go_wp2
  rw [HCLR.out]
  simp only [Result.andThen]
  rw [Oper.upon_value]
  go_wp2
  go_ret
  exact ⟨_, rfl, HFIN.out.1, HFIN.out.2, rfl⟩
end Go.Proofs.YtalgbcgiiphoaaaGreatDoor
