/- The walks of the six statements of crcsum: each call returns true, and writes nothing that was there. No condition. -/
import Derived.Test.YtjeiklgaiefeaaaCrcWalk
import Derived.Deep.QuietTactic
import Derived.BigQuiet
import Derived.Deep.RegionWith
namespace Go.Proofs.Ytjeiklgaiefeaaa
open Go.RowKit
set_option linter.unusedVariables false

theorem below_drewN {B : Nat} {a w : World} (h : Below B a w) (n : Nat) : Below B a (w.drewN n) := ⟨h.os, h.tape, h.output, h.size, h.block⟩

set_option maxRecDepth 100000 in
set_option maxHeartbeats 400000 in
theorem law_CrcsumTable (w : World) :
    Calls Try.prog 3 #[] w fun e w' => e = .returned (.bool true) ∧ Below w.heap.size w w' := by
  go_enter Try.func3, Try.ntmps3
  go_wp2_with fail
  refine (table_any _).mono ?_
  rintro e w1 ⟨rfl, hR1, hB1⟩
  go_wp2_with fail
  refine (reftable_any _).mono ?_
  rintro e w2 ⟨v, rfl, hO, hB2⟩
  rcases hO.2 with ⟨_, h0⟩ | ⟨g, cap, cur, rfl, _⟩
  · exact absurd h0 (by decide)
  have hR2 : Row1 w2 w2.heap.size (some ⟨w.heap.size, 0, none⟩) 256 (fun i => .int .u32 (Crc.tab i : Nat)) := ((tab_row hR1).below hB2).more hB2.size
  have hR3 : Row1 w2 w2.heap.size (some ⟨g, 0, none⟩) 256 (fun i => .int .u32 (Crc.tab i : Nat)) := Row1.of_own hO (fun i hi => by simp [tabL, hi])
  have hB := bt hB1 hB2
  clear hO hB1 hB2 hR1
  go_wp2
  go_loopw [3] (fun i wr => ∃ k : Nat, k ≤ 256 ∧ i = .int .i64 k ∧ (∀ j, j < 256 → wr.cell? ⟨w.heap.size, j, none⟩ = some (.int .u32 (Crc.tab j : Nat))) ∧ (∀ j, j < 256 → wr.cell? ⟨g, j, none⟩ = some (.int .u32 (Crc.tab j : Nat))) ∧ Below w.heap.size w wr) (fun i _ => 256 - (intOf i).toNat)
  case atStart =>
    refine ⟨0, by omega, rfl, fun j hj => ?_, fun j hj => ?_, hB⟩
    · obtain ⟨ad, h1, _, h2⟩ := hR2 j hj
      cases h1
      rwa [add_zero'] at h2
    · obtain ⟨ad, h1, _, h2⟩ := hR3 j hj
      cases h1
      rwa [add_zero'] at h2
  case round =>
    obtain ⟨k, hk, rfl, h1, h2, hB'⟩ := hrel
    clear hB hR2 hR3
    by_cases hlt : k < 256
    · have c1 := h1 k hlt
      have c2 := h2 k hlt
      have H1 := Lib.hid h1
      have H2 := Lib.hid h2
      clear h1 h2
      generalize Crc.tab k = x at *
      go_wp2
      go_quiet (fail)
      go_wp2
      go_roundw
      case rel => exact ⟨k + 1, by omega, by go_num, H1.out, H2.out, below_drewN hB' _⟩
      case measure => simp [intOf]; omega
    · obtain rfl : k = 256 := by omega
      go_wp2
      go_ret
      exact ⟨rfl, hB'⟩

theorem wf_u32 {c : Int} (wf : (Lit.int .u32 c).wf = true) : 0 ≤ c ∧ c < 4294967296 := by
  have : 0 ≤ c ∧ c ≤ 4294967295 := by simpa [Lit.wf, IntKind.min, IntKind.max, IntKind.bits, IntKind.signed] using wf
  omega
set_option maxRecDepth 100000 in
set_option maxHeartbeats 400000 in
theorem law_CrcsumBytes (c : Int) (wf : (Lit.int .u32 c).wf = true) (w : World) :
    Calls Try.prog 6 #[.int .u32 c] w fun e w' => e = .returned (.bool true) ∧ Below w.heap.size w w' := by
  obtain ⟨h0, h1⟩ := wf_u32 wf
  obtain ⟨n, rfl⟩ := Int.eq_ofNat_of_zero_le h0
  have hn : n < 4294967296 := by omega
  clear wf h0 h1
  go_enter Try.func6, Try.ntmps6
  go_wp2_with fail
  refine (awake2_any _).mono ?_
  rintro e w1 ⟨rfl, hB1⟩
  go_wp2_with fail
  refine (bytes_any n hn _).mono ?_
  rintro e w2 ⟨rfl, hB2⟩
  go_wp2_with fail
  refine (refbytes_any n hn _).mono ?_
  rintro e w3 ⟨rfl, hB3⟩
  go_wp2
  go_ret
  exact ⟨rfl, bt hB1 (bt hB2 hB3)⟩

theorem crc_tab (l : List UInt8) : crcOf Crc.tab l = plainOf l := by unfold crcOf plainOf; rw [Crc.sum_plain]
/-- the numbers of a table that came in -/
def numAt (zs : List Int) (i : Nat) : Nat := (zs.getD i 0).toNat
theorem numAt_lt {zs : List Int} (h : ∀ n ∈ zs, (Lit.int .u32 n).wf = true) (i : Nat) : numAt zs i < 4294967296 := by
  unfold numAt
  by_cases hi : i < zs.length
  · have := wf_u32 (h _ (List.getElem_mem hi))
    rw [List.getD_eq_getElem?_getD, List.getElem?_eq_getElem hi]
    simp only [Option.getD_some]
    omega
  · rw [List.getD_eq_getElem?_getD, List.getElem?_eq_none (by omega)]
    decide
theorem IsRowI.nums {w : World} {a : Option Addr} {len cap : Nat} {zs : List Int} (h : IsRowI .u32 w a len cap zs) :
    Row1 w w.heap.size a len (fun i => .int .u32 (numAt zs i : Nat)) ∧ ∀ i, numAt zs i < 4294967296 := by
  have hw : ∀ n ∈ zs, (Lit.int .u32 n).wf = true := by
    rcases h with ⟨_, _, _, rfl⟩ | ⟨_, _, _, _, _, _, hw⟩
    · simp
    · exact hw
  refine ⟨h.row.congr fun i hi => ?_, numAt_lt hw⟩
  have hlen : i < zs.length := by
    rcases h with ⟨_, rfl, _, _⟩ | ⟨_, _, hl, _, hz, _, _⟩ <;> omega
  have := wf_u32 (hw _ (List.getElem_mem hlen))
  unfold numAt
  rw [List.getD_eq_getElem?_getD, List.getElem?_eq_getElem hlen]
  simp only [Option.getD_some]
  rw [Int.toNat_of_nonneg this.1]

set_option maxRecDepth 100000 in
set_option maxHeartbeats 400000 in
theorem law_CrcsumSums (a : Option Addr) (len cap : Nat) (zs : List Int) (s : ByteArray) (w : World) (h0 : IsRowI .u32 w a len cap zs) (hs : s.size ≤ maxLen) :
    Calls Try.prog 4 #[.slice a len cap, .string s] w fun e w' => e = .returned (.bool true) ∧ Below w.heap.size w w' := by
  by_cases hl : 2000 < s.size
  · have hl' : (2000 : Int) < s.size := by omega
    go_enter Try.func4, Try.ntmps4
    go_wp2_with fail
    refine (awake2_any _).mono ?_
    rintro e w1 ⟨rfl, hB1⟩
    go_wp2
    go_ret
    exact ⟨rfl, hB1⟩
  have hl' : ¬ (2000 : Int) < s.size := by omega
  obtain ⟨hR, hn⟩ := h0.nums
  by_cases h256 : len = 256
  · subst h256
    have HR := Lib.hid hR
    clear hR h0
    go_enter Try.func4, Try.ntmps4
    go_wp2_with fail
    refine (sum_ok a cap (numAt zs) (fun i _ => hn i) s hs _ HR.out).mono ?_
    rintro e w1 ⟨rfl, hB1⟩
    go_wp2_with fail
    refine (refsum_ok a cap (numAt zs) (fun i _ => hn i) s hs _ ((HR.out.below hB1).more hB1.size)).mono ?_
    rintro e w2 ⟨rfl, rfl⟩
    go_wp2_with fail
    refine (table_any _).mono ?_
    rintro e w3 ⟨rfl, hR3, hB3⟩
    go_wp2_with fail
    refine (sum_ok _ _ Crc.tab tabok s hs _ (tab_row hR3)).mono ?_
    rintro e w4 ⟨rfl, hB4⟩
    rw [crc_tab]
    go_wp2_with fail
    refine (awake2_any _).mono ?_
    rintro e w5 ⟨rfl, hB5⟩
    go_wp2_with fail
    refine (plain_any s hs _).mono ?_
    rintro e w6 ⟨rfl, rfl⟩
    have hB := bt hB1 (bt hB3 (bt hB4 hB5))
    clear hB1 hB3 hB4 hB5 hR3
    go_wp2
    go_ret
    exact ⟨rfl, hB⟩
  · clear hR hn h0
    go_enter Try.func4, Try.ntmps4
    go_wp2_with fail
    refine (sum_bad a len cap h256 s _).mono ?_
    rintro e w1 ⟨rfl, rfl⟩
    go_wp2_with fail
    refine (refsum_bad a len cap h256 s _).mono ?_
    rintro e w2 ⟨rfl, rfl⟩
    go_wp2_with fail
    refine (table_any _).mono ?_
    rintro e w3 ⟨rfl, hR3, hB3⟩
    go_wp2_with fail
    refine (sum_ok _ _ Crc.tab tabok s hs _ (tab_row hR3)).mono ?_
    rintro e w4 ⟨rfl, hB4⟩
    rw [crc_tab]
    go_wp2_with fail
    refine (awake2_any _).mono ?_
    rintro e w5 ⟨rfl, hB5⟩
    go_wp2_with fail
    refine (plain_any s hs _).mono ?_
    rintro e w6 ⟨rfl, rfl⟩
    have hB := bt hB3 (bt hB4 hB5)
    clear hB3 hB4 hB5 hR3
    go_wp2
    go_ret
    exact ⟨rfl, hB⟩
def anyN (zs : List Int) (len i : Nat) : Nat := (numAt zs (i % len) + i) % 4294967296
def anyL (zs : List Int) (len k : Nat) : List Value := (List.range k).map fun i => .int .u32 (anyN zs len i : Nat)
theorem anyL_succ (zs : List Int) (len k : Nat) : anyL zs len (k + 1) = anyL zs len k ++ [.int .u32 (anyN zs len k : Nat)] := by unfold anyL; rw [List.range_succ]; simp
theorem anyN_lt (zs : List Int) (len i : Nat) : anyN zs len i < 4294967296 := Nat.mod_lt _ (by decide)
set_option maxRecDepth 100000 in
set_option maxHeartbeats 400000 in
theorem law_CrcsumAny (a : Option Addr) (len cap : Nat) (zs : List Int) (s : ByteArray) (w : World) (h0 : IsRowI .u32 w a len cap zs) (hs : s.size ≤ maxLen) :
    Calls Try.prog 5 #[.slice a len cap, .string s] w fun e w' => e = .returned (.bool true) ∧ Below w.heap.size w w' := by
  by_cases hz : len = 0
  · subst hz
    go_enter Try.func5, Try.ntmps5
    go_wp2_with fail
    refine (awake2_any _).mono ?_
    rintro e w1 ⟨rfl, hB1⟩
    go_wp2
    go_ret
    exact ⟨rfl, hB1⟩
  have hz' : ((len : Int) == 0) = false := by rw [beq_eq_false_iff_ne]; omega
  by_cases hl : 500 < s.size
  · have hl' : (500 : Int) < s.size := by omega
    go_enter Try.func5, Try.ntmps5
    go_wp2_with fail
    refine (awake2_any _).mono ?_
    rintro e w1 ⟨rfl, hB1⟩
    go_wp2
    go_ret
    exact ⟨rfl, hB1⟩
  have hl' : ¬ (500 : Int) < s.size := by omega
  obtain ⟨hR, hn⟩ := h0.nums
  have hlen : len ≤ 9223372036854775807 := by
    rcases h0 with ⟨_, h, _, _⟩ | ⟨_, _, h1, h2, _⟩
    · omega
    · unfold maxLen at h2; omega
  have HR := Lib.hid hR
  clear hR h0
  obtain ⟨i0, hi, hz0, hz1, hz2⟩ := info_parts info_u32
  go_enter Try.func5, Try.ntmps5
  go_wp2
  go_loopw [5, 6] (fun v i wr => ∃ k : Nat, k ≤ 256 ∧ i = .int .i64 k ∧ wr.ownsRow w.heap.size 24 1 v k (anyL zs len k) ∧ Below w.heap.size w wr) (fun _ i _ => 256 - (intOf i).toNat)
  case atStart => exact ⟨0, by omega, rfl, World.ownsRow_nil _ _ _ _, Below.refl _ _⟩
  case round =>
    obtain ⟨k, hk, rfl, hO, hB⟩ := hrel
    by_cases hlt : k < 256
    · have hm : k % len < len := Nat.mod_lt _ (by omega)
      obtain ⟨ad, hA, hb, hc⟩ := (HR.out.below hB) (k % len) hm
      subst hA
      replace hc : wr.cell? (ad.add (k % len)) = some (.int .u32 (numAt zs (k % len) : Nat)) := hc
      have hAS := anyL_succ zs len k
      unfold anyN at hAS
      have hx := hn (k % len)
      have HS := Lib.hid hAS
      clear hAS
      generalize numAt zs (k % len) = x at *
      have hsz := hB.size
      go_wp2_with (at_builtin; refine wpList_append_own _ rfl _ _ 22 rfl w.heap.size 24 i0 (.int .u32 0) 1 4 Try.underlying22 hi hz0 hz1 hz2 rfl (by decide) _ _ _ rfl (hO.alloc _) ⟨wr.heap.size, 0, none⟩ 1 1 [.int .u32 (((x : Int) + (k : Int)) % 4294967296)] rfl rfl (one_cell _ _ _) (fun u hu => by simp at hu; subst hu; rfl) (by unfold maxLen; omega) (by omega) (by simp; omega) ?_; intro v' w1 hown' hgrow _)
      go_roundw
      case rel => exact ⟨k + 1, by omega, by go_num, by rw [HS.out]; exact hown', (hB.alloc hB.size _).grown hgrow (by simp; omega) (fun j h => (hO.lt j h).1)⟩
      case measure => simp [intOf]; omega
    · obtain rfl : k = 256 := by omega
      rcases hO.2 with ⟨_, h0⟩ | ⟨g, c1, cur, rfl, _⟩
      · exact absurd h0 (by decide)
      have hR3 : Row1 wr wr.heap.size (some ⟨g, 0, none⟩) 256 (fun i => .int .u32 (anyN zs len i : Nat)) := Row1.of_own hO (fun i hi => by simp [anyL, hi])
      have H3 := Lib.hid hR3
      clear hO hR3
      go_wp2_with fail
      refine (sum_ok _ _ (anyN zs len) (fun i _ => anyN_lt _ _ _) s hs _ H3.out).mono ?_
      rintro e w4 ⟨rfl, hB4⟩
      go_wp2_with fail
      refine (refsum_ok _ _ (anyN zs len) (fun i _ => anyN_lt _ _ _) s hs _ ((H3.out.below hB4).more hB4.size)).mono ?_
      rintro e w5 ⟨rfl, rfl⟩
      go_wp2_with fail
      refine (awake2_any _).mono ?_
      rintro e w6 ⟨rfl, hB6⟩
      have hB7 := hB.trans ((bt hB4 hB6).mono hB.size)
      clear hB hB4 hB6
      go_wp2
      go_ret
      exact ⟨rfl, hB7⟩

theorem own_below {w w' : World} {base : Nat} {e : TypeId} {size : Nat} {v : Value} {n : Nat} {xs : List Value} (h : w.ownsRow base e size v n xs) (hb : Below w.heap.size w w') : w'.ownsRow base e size v n xs :=
  h.kept (row := none) ⟨hb.os, hb.tape, hb.output, hb.size, fun i hi _ => hb.block i hi⟩ (by cases v.ownBlock <;> simp)
theorem own_drewN {w : World} {base : Nat} {e : TypeId} {size : Nat} {v : Value} {n : Nat} {xs : List Value} (h : w.ownsRow base e size v n xs) (j : Nat) : (w.drewN j).ownsRow base e size v n xs := h
theorem u8_xor_v (a b : UInt8) : bits .xor .u8 (a.toNat : Int) (b.toNat : Int) = ((a ^^^ b).toNat : Int) := u8_xor_b a b
theorem and4095 (n : Int) : ∃ m : Nat, bits .and .i64 n 4095 = (m : Int) ∧ m < 4096 := by
  refine ⟨(BitVec.ofInt 64 n &&& BitVec.ofInt 64 4095).toNat, ?_, ?_⟩
  · show IntKind.i64.wrap ((BitVec.ofInt 64 n &&& BitVec.ofInt 64 4095).toNat : Int) = _
    have : (BitVec.ofInt 64 n &&& BitVec.ofInt 64 4095).toNat < 4096 := by
      rw [BitVec.toNat_and]
      exact Nat.and_lt_two_pow (n := 12) _ (by decide)
    rw [IntKind.wrap_i64]
    omega
  · rw [BitVec.toNat_and]
    exact Nat.and_lt_two_pow (n := 12) _ (by decide)
theorem sum_tab (b : Nat) (s : ByteArray) (hs : s.size ≤ maxLen) (C : Nat) (hC : Hid (C = crcOf Crc.tab s.data.toList)) (w w0 : World) (hR : Row1 w0 w0.heap.size (some ⟨b, 0, none⟩) 256 (fun i => .int .u32 (Crc.tab i : Nat))) (hw : ∀ k : Nat, w.heap[k]? = w0.heap[k]?) :
    Calls Try.prog 24 #[.slice (some ⟨b, 0, none⟩) 256 256, .string s] w fun e w' => e = .returned (.tuple #[.int .u32 C, .int .i64 0]) ∧ Below w.heap.size w w' := by
  rw [hC.out]
  refine sum_ok _ _ Crc.tab tabok s hs w fun k hk => ?_
  obtain ⟨ad, h1, h2, h3⟩ := hR k hk
  cases h1
  have hc : w.cell? ((⟨b, 0, none⟩ : Addr).add k) = some (.int .u32 (Crc.tab k : Nat)) := (World.cell?_of_block (hw _)).trans h3
  exact ⟨_, rfl, by have := lt_of_cell hc; rwa [add_block] at this, hc⟩
theorem crc_other (s : ByteArray) (k : Nat) (h : k < s.size) (y x : UInt8) (hx : x.toNat ≠ 0) (hy : y = s[k] ^^^ x) :
    crcOf Crc.tab s.data.toList ≠ crcOf Crc.tab (s.extract 0 k ++ ⟨#[y]⟩ ++ s.extract (k + 1) s.size).data.toList := by
  have e1 : (s.extract 0 k ++ ⟨#[y]⟩ ++ s.extract (k + 1) s.size).data.toList = s.data.toList.take k ++ [y] ++ s.data.toList.drop (k + 1) := by
    have hl : s.data.toList.length = s.size := by simp
    rw [ByteArray.data_append, ByteArray.data_append, ByteArray.data_extract, ByteArray.data_extract, Array.toList_append, Array.toList_append, Array.toList_extract, Array.toList_extract]
    simp only [List.extract_eq_take_drop, List.drop_zero, Nat.sub_zero]
    rw [List.take_of_length_le (l := List.drop (k + 1) s.data.toList) (by rw [List.length_drop, hl]; exact Nat.le_refl _)]
  have e2 : s.data.toList = s.data.toList.take k ++ [s[k]] ++ s.data.toList.drop (k + 1) := by
    rw [← take_snoc s k h, List.take_append_drop]
  have ne : s[k] ≠ y := by
    intro hh
    rw [hy] at hh
    apply hx
    have h1 : s[k] ^^^ s[k] = s[k] ^^^ (s[k] ^^^ x) := congrArg (fun z => s[k] ^^^ z) hh
    rw [← UInt8.xor_assoc, UInt8.xor_self, UInt8.zero_xor] at h1
    rw [← h1]; rfl
  have hp := Crc.plain_ne (s.data.toList.take k) (s.data.toList.drop (k + 1)) s[k] y ne (c := 4294967295) (by decide)
  rw [← e2, ← e1] at hp
  rw [crc_tab, crc_tab]
  unfold plainOf
  intro he
  exact hp (Crc.xor_cancel he)
end Go.Proofs.Ytjeiklgaiefeaaa
