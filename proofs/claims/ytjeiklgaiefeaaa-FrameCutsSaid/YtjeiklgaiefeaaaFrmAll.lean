/- What all of a list's texts are in frames, one behind the other. Conditions: bounds on sizes. -/
import Derived.Test.YtjeiklgaiefeaaaFrmLists
namespace Go.Proofs.Ytjeiklgaiefeaaa
open Go.RowKit Go.Lib Go.Shelf
set_option linter.unusedVariables false
attribute [local go_sem] Oper.semAt_some
/-- the frames of texts, one behind the other -/
def catS (l : List ByteArray) : ByteArray := l.foldl (fun s x => s ++ frameS Crc.tab x) ⟨#[]⟩
theorem catS_snoc (l : List ByteArray) (x : ByteArray) : catS (l ++ [x]) = catS l ++ frameS Crc.tab x := by unfold catS; rw [List.foldl_append]; rfl
theorem takeL_snoc {l : List ByteArray} {k : Nat} (hk : k < l.length) : l.take (k + 1) = l.take k ++ [l.getD k ⟨#[]⟩] := by
  rw [List.take_add_one, List.getElem?_eq_getElem hk]; simp [hk]
theorem catS_take {l : List ByteArray} {k : Nat} (hk : k < l.length) : catS (l.take (k + 1)) = catS (l.take k) ++ frameS Crc.tab (l.getD k ⟨#[]⟩) := by rw [takeL_snoc hk, catS_snoc]
theorem frame_le (x : ByteArray) (hx : x.size ≤ 3000) : (frameS Crc.tab x).size ≤ x.size + 14 := by
  rw [frame_size, ByteArray.size_append]; have := putS_le x.size (by omega); omega
theorem catS_le (l : List ByteArray) (h3 : lens l ≤ 3000) : ∀ k, k ≤ l.length → (catS (l.take k)).size ≤ lens (l.take k) + 14 * k
  | 0, _ => by simp [catS, ByteArray.size]
  | k + 1, h => by
    have h1 := catS_le l h3 k (by omega)
    have h2 := lens_take (l := l) (k := k) (by omega)
    have h4 := lens_le l (k + 1)
    rw [catS_take (by omega), ByteArray.size_append]
    have := frame_le (l.getD k ⟨#[]⟩) (by omega)
    omega
theorem infoInt : (Try.prog.info? 3).map (fun i => (i.zero, i.size, i.bytes)) = some (some (.int .i64 0), 1, 8) := by kernel_rfl
def endsL (l : List ByteArray) (k : Nat) : List Value := (List.range k).map fun i => .int .i64 ((catS (l.take (i + 1))).size : Nat)
theorem endsL_succ (l : List ByteArray) (k : Nat) : endsL l (k + 1) = endsL l k ++ [.int .i64 ((catS (l.take (k + 1))).size : Nat)] := by unfold endsL; rw [List.range_succ]; simp
set_option maxRecDepth 100000 in
set_option maxHeartbeats 4000000 in
theorem lawall_any (A : Option Addr) (c : Nat) (l : List ByteArray) (hn : l.length ≤ 3000) (hl : lens l ≤ 3000) (w : World) (hA : Row1 w w.heap.size A l.length (fun i => .string (l.getD i ⟨#[]⟩))) :
    Calls Try.prog 58 #[.slice A l.length c] w fun e w' => ∃ v, e = .returned (.tuple #[.string (catS l), v]) ∧ w'.ownsRow w.heap.size 3 1 v l.length (endsL l l.length) ∧ Below w.heap.size w w' := by
  have HA := Lib.hid hA
  have HL := Lib.hid hl
  obtain ⟨n, hnn⟩ : ∃ n, n = l.length := ⟨_, rfl⟩
  rw [← hnn] at hn ⊢
  have HN := Lib.hid hnn
  clear hA hl hnn
  obtain ⟨i0, hi, hz0, hz1, hz2⟩ := info_parts infoInt
  go_enter Try.func58, Try.ntmps58
  go_wp2
  go_loopw [4, 5, 6] (fun a v i wr => ∃ k : Nat, k ≤ n ∧ i = .int .i64 k ∧ a = .string (catS (l.take k)) ∧ wr.ownsRow w.heap.size 3 1 v k (endsL l k) ∧ Below w.heap.size w wr) (fun _ _ i _ => n - (intOf i).toNat)
  case atStart => exact ⟨0, by omega, rfl, rfl, World.ownsRow_nil _ _ _ _, Below.refl _ _⟩
  case round =>
    obtain ⟨k, hk, rfl, rfl, hO, hB⟩ := hrel
    by_cases hlt : k < n
    · obtain ⟨ad, hA, hbk, hc⟩ := (HA.out.below hB) k (by have := HN.out; omega)
      subst hA
      replace hc : wr.cell? (ad.add k) = some (.string (l.getD k ⟨#[]⟩)) := hc
      have hsz := hB.size
      have hbk2 : (ad.add k).block < wr.heap.size := by
        have e : (ad.add k).block = ad.block := by unfold Addr.add; split <;> rfl
        omega
      have hs := lens_take (l := l) (k := k) (by have := HN.out; omega)
      have hcs := catS_take (l := l) (k := k) (by have := HN.out; omega)
      have hcl := catS_le l HL.out (k + 1) (by have := HN.out; omega)
      have hll := lens_le l (k + 1)
      have hl3 := HL.out
      have hel := endsL_succ l k
      obtain ⟨x, hxx⟩ : ∃ x, x = l.getD k ⟨#[]⟩ := ⟨_, rfl⟩
      rw [← hxx] at hc hs hcs
      have hx : x.size ≤ 1048576 := by omega
      obtain ⟨S, hS⟩ : ∃ S, S = catS (l.take k) := ⟨_, rfl⟩
      obtain ⟨F, hF⟩ : ∃ F, F = frameS Crc.tab x := ⟨_, rfl⟩
      rw [← hS] at hcs ⊢
      rw [← hF] at hcs
      have hm : (S ++ F).size ≤ 45000 := by rw [← hcs]; omega
      have hcc : ¬ maxLen < S.size + F.size := by rw [ByteArray.size_append] at hm; unfold maxLen; omega
      have HCS := Lib.hid hcs
      have HF := Lib.hid hF
      have HE := Lib.hid hel
      have HB := Lib.hid hB
      clear hxx hS hs hcs hcl hll hl3 hel hF hB
      have hmI : IntKind.i64.wrap ((k : Int) + 1) = (k : Int) + 1 := IntWalk.i64_in _ (by omega)
      go_wp2
      go_region_with (first
        | (go_at_call 49; refine (table_f _).mono ?_; rintro e w1 ⟨A1, c1, rfl, hT, hB1⟩; have hc1 : w1.cell? (ad.add k) = some (.string x) := (hB1.cell (by exact hbk2)).trans hc)
        | (go_at_call 50; refine (of_ok A1 c1 Crc.tab tabIs x hx _ (by exact hT)).mono ?_; rw [← HF.out]; rintro e w2 ⟨rfl, hB2⟩))
      all_goals
        have hB2' : Below wr.heap.size wr w2 := bt ((Below.refl _ wr).drew.trans hB1) hB2
        have hO2 := own_grow hO hB2'
        have hB' : Below w.heap.size w w2 := bt HB.out hB2'
        have hsz2 := hB'.size
        clear hO hB1 hB2 hT hc hc1 hB2'
        go_wp2_with (at_builtin; refine wpList_append_own _ rfl _ _ 47 rfl w.heap.size 3 i0 (.int .i64 0) 1 8 Try.underlying47 hi hz0 hz1 hz2 rfl (by decide) _ _ _ rfl (by exact hO2.alloc _) ⟨w2.heap.size, 0, none⟩ 1 1 [.int .i64 ((S.size : Int) + (F.size : Int))] rfl rfl (by exact cellOne _ _ _) (fun u hu => by simp at hu; subst hu; rfl) (by unfold maxLen; omega) (by omega) (by simp; omega) ?_; intro v' w3 hown' hgrow _)
        go_roundw
        case rel =>
          refine ⟨k + 1, by omega, by go_num, by rw [HCS.out], ?_, (hB'.alloc (by omega) _).grown hgrow (by simp; omega) (fun i h => (hO2.lt i h).1)⟩
          rw [HE.out, HCS.out, ByteArray.size_append, Int.natCast_add]; exact hown'
        case measure => simp [intOf]; omega
    · obtain rfl : k = n := by omega
      have e : l.take k = l := by rw [HN.out, List.take_length]
      have HE := Lib.hid e
      clear e
      go_wp2
      go_ret2
      exact ⟨_, by rw [HE.out]; rfl, hO, hB⟩
end Go.Proofs.Ytjeiklgaiefeaaa
