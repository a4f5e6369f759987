/- What the functions of crcsum and its reference compute: the table, the sum with a table, the sum bit by bit, a sum's bytes. Conditions: a table that is read has 256 numbers below 2^32. -/
import Derived.Test.YtjeiklgaiefeaaaWords
import Derived.Test.YtjeiklgaiefeaaaCrcPlain
import Derived.OwnWalk
import Derived.Deep.RegionHeld3
import Derived.Deep.AppendLies
namespace Go.Proofs.Ytjeiklgaiefeaaa
open Go.RowKit

theorem crc_bits (c : Nat) (h : c < 4294967296) :
    bits .xor .u32 ((c : Int) / 2) (bits .and .u32 3988292384 (-bits .and .u32 (c : Int) 1 % 4294967296)) = (Crc.step c : Nat) := by
  have h1 := u32_and_nat c 1 h (by decide)
  have h2 : c &&& 1 = c % 2 := Nat.and_one_is_mod c
  rw [h2] at h1
  rw [show ((1 : Nat) : Int) = 1 from rfl] at h1
  rw [h1]
  unfold Crc.step
  rw [show (c : Int) / 2 = ((c / 2 : Nat) : Int) from by omega]
  by_cases ho : c % 2 = 1
  · rw [if_pos ho, ho]
    rw [show (-((1 : Nat) : Int) % 4294967296) = ((4294967295 : Nat) : Int) from by decide]
    have h3 := u32_and_nat 3988292384 4294967295 (by decide) (by decide)
    rw [show ((3988292384 : Nat) : Int) = 3988292384 from rfl] at h3
    rw [h3, show 3988292384 &&& 4294967295 = 3988292384 from by decide, u32_xor_nat _ _ (by omega) (by decide)]
  · rw [if_neg ho, show c % 2 = 0 from by omega]
    rw [show (-((0 : Nat) : Int) % 4294967296) = ((0 : Nat) : Int) from by decide]
    have h3 := u32_and_nat 3988292384 0 (by decide) (by decide)
    rw [show ((3988292384 : Nat) : Int) = 3988292384 from rfl] at h3
    rw [h3, show 3988292384 &&& 0 = 0 from by decide, u32_xor_nat _ _ (by omega) (by decide)]
    simp
theorem info_u32 : (Try.prog.info? 24).map (fun i => (i.zero, i.size, i.bytes)) = some (some (.int .u32 0), 1, 4) := by kernel_rfl
theorem make256 (W : World) : (Instr.makeSlice 22 (.int .i64 256) (.int .i64 256)).run Try.prog W = .ok (.slice (some ⟨W.heap.size, 0, none⟩) 256 256) (W.alloc (.cells (madeCells #[.int .u32 0] 256) 24)) :=
  run_make_row' (P := Try.prog) 22 24 (.int .u32 0) 4 Try.underlying22 info_u32 rfl .i64 .i64 256 (by omega) (by omega) W
def tabN (k i : Nat) : Nat := if i < k then Crc.tab i else 0
def tabF (k i : Nat) : Value := .int .u32 (tabN k i : Nat)
set_option maxRecDepth 100000 in
set_option maxHeartbeats 400000 in
theorem table_any (w : World) :
    Calls Try.prog 21 #[] w fun e w' => e = .returned (.slice (some ⟨w.heap.size,0,none⟩) 256 256) ∧ w'.rowIs w.heap.size 24 256 (tabF 256) ∧ Below w.heap.size w w' := by
  have hmk := make256
  go_enter Try.func21, Try.ntmps21
  go_wp2
  clear hmk
  go_loopw [3, 7] (fun c i wr => ∃ k : Nat, k ≤ 256 ∧ i = .int .i64 k ∧ wr.rowIs w.heap.size 24 256 (tabF k)  ∧ Below w.heap.size w wr) (fun _ i _ => 256 - (intOf i).toNat)
  case atStart => 
    refine ⟨0, by omega, rfl, ?_, (Below.refl _ _).alloc (Nat.le_refl _) _⟩
    exact (World.rowIs_made w (.int .u32 0) 256 24).congr fun i _ => by simp [tabF, tabN]
  case round => 
    obtain ⟨k, hk, rfl, hR, hB⟩ := hrel
    by_cases hlt : k < 256
    · have hc := hR.cell hlt
      have hf := hR.frozen k
      go_wp2
      go_loop [3, 12] (fun c j => ∃ m : Nat, m ≤ 8 ∧ j = .int .i64 m ∧ c = .int .u32 (Crc.steps m k)) (fun _ j => 8 - (intOf j).toNat)
      case atStart => exact ⟨0, by omega, rfl, rfl⟩
      case round =>
        obtain ⟨m, hm, rfl, rfl⟩ := hrel
        have hsl := Crc.steps_lt (c := k) (by omega) m
        by_cases hlm : m < 8
        · go_wp2
          go_round
          case rel => exact ⟨m + 1, by omega, by go_num, int_val (crc_bits _ hsl)⟩
          case measure => simp [intOf]; omega
        · go_wp2
          go_roundw
          case rel =>
            refine ⟨k + 1, by omega, by go_num, ?_, hB.setCell (Nat.le_refl _) _⟩
            refine (hR.set k _).congr fun i _ => ?_
            obtain rfl : m = 8 := by omega
            by_cases e : i = k
            · subst e; rw [if_pos rfl]; unfold tabF tabN; rw [if_pos (by omega)]; rfl
            · rw [if_neg e]; unfold tabF tabN
              by_cases e2 : i < k
              · rw [if_pos e2, if_pos (by omega)]
              · rw [if_neg e2, if_neg (by omega)]
          case measure => simp [intOf]; omega
    · obtain rfl : k = 256 := by omega
      go_wp2
      go_ret
      exact ⟨rfl, hR, hB⟩
theorem take_snoc (s : ByteArray) (k : Nat) (h : k < s.size) : s.data.toList.take (k + 1) = s.data.toList.take k ++ [s[k]] := by
  rw [List.take_succ_eq_append_getElem (by simpa using h)]; rfl

/-- the sum of a text with a table -/
def crcOf (t : Nat → Nat) (l : List UInt8) : Nat := Crc.sum t l 4294967295 ^^^ 4294967295
theorem xor_mod256 (c b : Nat) (hb : b < 256) : (c % 256) ^^^ b = (c ^^^ b) % 256 := by
  rw [show (256 : Nat) = 2 ^ 8 from rfl, Nat.xor_mod_two_pow, Nat.mod_eq_of_lt (show b < 2 ^ 8 from hb)]
theorem u8_idx (c b : Nat) (hb : b < 256) : bits .xor .u8 ((c : Int) % 256) (b : Int) = ((c ^^^ b) % 256 : Nat) := by
  rw [show (c : Int) % 256 = ((c % 256 : Nat) : Int) from by omega, u8_xor_nat _ _ (Nat.mod_lt _ (by decide)) hb, xor_mod256 _ _ hb]
theorem u32_step (c x : Nat) (hc : c < 4294967296) (hx : x < 4294967296) : bits .xor .u32 ((c : Int) / 256) (x : Int) = ((c / 256) ^^^ x : Nat) := by
  rw [show (c : Int) / 256 = ((c / 256 : Nat) : Int) from by omega, u32_xor_nat _ _ (by omega) hx]
theorem sum_snoc (t : Nat → Nat) (s : ByteArray) (k : Nat) (h : k < s.size) (c : Nat) : Crc.sum t (s.data.toList.take (k + 1)) c = Crc.two t (Crc.sum t (s.data.toList.take k) c) s[k].toNat := by
  rw [take_snoc s k h, Crc.sum_append]; rfl
theorem u32_inv (c : Nat) (hc : c < 4294967296) : bits .xor .u32 IntKind.u32.max (c : Int) = ((c ^^^ 4294967295 : Nat) : Int) := by
  rw [show IntKind.u32.max = ((4294967295 : Nat) : Int) from by decide, u32_xor_nat _ _ (by decide) hc, Nat.xor_comm]
theorem ret_two {a b : Value} {x y : Value} (h : a = x) (h' : b = y) : Ending.returned (.tuple #[a, b]) = .returned (.tuple #[x, y]) := by rw [h, h']

set_option maxRecDepth 100000 in
set_option maxHeartbeats 400000 in
theorem sum_ok (A : Option Addr) (cap : Nat) (t : Nat → Nat) (ht : ∀ i, i < 256 → t i < 4294967296) (s : ByteArray) (hs : s.size ≤ maxLen) (w : World) (hR : Row1 w w.heap.size A 256 (fun i => .int .u32 (t i : Nat))) :
    Calls Try.prog 24 #[.slice A 256 cap, .string s] w fun e w' => e = .returned (.tuple #[.int .u32 (crcOf t s.data.toList : Nat), .int .i64 0]) ∧ Below w.heap.size w w' := by
  unfold maxLen at hs
  have hcv := fun W => run_bytes_of_string (P := Try.prog) W 9 33 5 s Try.underlying9 Try.underlying33 Try.underlying5
  go_enter Try.func24, Try.ntmps24
  go_wp2
  clear hcv
  go_loopw [6, 15] (fun c i wr => ∃ k : Nat, k ≤ s.size ∧ i = .int .i64 k ∧ c = .int .u32 (Crc.sum t (s.data.toList.take k) 4294967295 : Nat) ∧ (∀ j, (hj : j < s.size) → wr.cell? ⟨w.heap.size, j, none⟩ = some (.int .u8 (s[j].toNat : Int))) ∧ Row1 wr w.heap.size A 256 (fun i => .int .u32 (t i : Nat)) ∧ Below w.heap.size w wr) (fun _ i _ => s.size - (intOf i).toNat)
  case atStart =>
    refine ⟨0, by omega, rfl, rfl, fun j hj => ?_, hR.keep fun p hp => World.cell?_alloc_lt _ _ _ hp, (Below.refl _ _).drew.alloc (Nat.le_refl _) _⟩
    exact (World.cell?_alloc_mark _ _ _ _ j).trans (bytesRow_at s _ j hj)
  case round =>
    obtain ⟨k, hk, rfl, rfl, hS, hT, hB⟩ := hrel
    have hlt32 := Crc.sum_lt ht (s.data.toList.take k) (c := 4294967295) (by decide)
    by_cases hlt : k < s.size
    · have hcs := hS k hlt
      have hsn := Lib.hid (sum_snoc t s k hlt 4294967295)
      generalize Crc.sum t (s.data.toList.take k) 4294967295 = c at *
      have hb := UInt8.toNat_lt s[k]
      have hx := u8_idx c s[k].toNat hb
      obtain ⟨x, hxx⟩ : ∃ x, x = (c ^^^ s[k].toNat) % 256 := ⟨_, rfl⟩
      rw [← hxx] at hx
      have hxl : x < 256 := by rw [hxx]; exact Nat.mod_lt _ (by decide)
      have HX := Lib.hid hxx
      clear hxx
      obtain ⟨ad, hA, -, hct⟩ := hT x hxl
      have h2 := u32_step c (t x) hlt32 (ht x hxl)
      have HS := Lib.hid hS
      have HT := Lib.hid hT
      clear hS hT hR
      subst hA
      go_wp2
      go_roundw
      case rel => 
        refine ⟨k + 1, by omega, by go_num, int_val ?_, HS.out, HT.out, hB⟩
        rw [hsn.out]
        unfold Crc.two
        rw [← HX.out]
      case measure => simp [intOf]; omega
    · obtain rfl : k = s.size := by omega
      rw [List.take_of_length_le (by simp)] at hlt32 ⊢
      clear hS hT hR
      go_wp2
      go_ret2
      exact ⟨ret_two (int_val (u32_inv _ hlt32)) rfl, hB⟩

set_option maxRecDepth 100000 in
set_option maxHeartbeats 400000 in
theorem sum_bad (A : Option Addr) (n cap : Nat) (hn : n ≠ 256) (s : ByteArray) (w : World) :
    Calls Try.prog 24 #[.slice A n cap, .string s] w fun e w' => e = .returned (.tuple #[.int .u32 0, .int .i64 1]) ∧ w = w' := by
  have h0 : ((n : Int) != 256) = true := by rw [bne_iff_ne]; omega
  go_enter Try.func24, Try.ntmps24
  go_wp2
  go_ret2
  exact ⟨rfl, rfl⟩

theorem u32_xor_b (c b : Nat) (hc : c < 4294967296) (hb : b < 256) : bits .xor .u32 (c : Int) (b : Int) = ((c ^^^ b : Nat) : Int) := u32_xor_nat _ _ hc (by omega)
theorem u32_xor_m (c : Nat) (hc : c < 4294967296) : bits .xor .u32 (c : Int) 4294967295 = ((c ^^^ 4294967295 : Nat) : Int) := u32_xor_nat _ 4294967295 hc (by decide)

set_option maxRecDepth 100000 in
set_option maxHeartbeats 400000 in
theorem refsum_bad (A : Option Addr) (n cap : Nat) (hn : n ≠ 256) (s : ByteArray) (w : World) :
    Calls Try.prog 25 #[.slice A n cap, .string s] w fun e w' => e = .returned (.tuple #[.int .u32 0, .int .i64 1]) ∧ w = w' := by
  have h0 : ((n : Int) != 256) = true := by rw [bne_iff_ne]; omega
  go_enter Try.func25, Try.ntmps25
  go_wp2
  go_ret2
  exact ⟨rfl, rfl⟩

set_option maxRecDepth 100000 in
set_option maxHeartbeats 400000 in
theorem refsum_ok (A : Option Addr) (cap : Nat) (t : Nat → Nat) (ht : ∀ i, i < 256 → t i < 4294967296) (s : ByteArray) (hs : s.size ≤ maxLen) (w : World) (hR : Row1 w w.heap.size A 256 (fun i => .int .u32 (t i : Nat))) :
    Calls Try.prog 25 #[.slice A 256 cap, .string s] w fun e w' => e = .returned (.tuple #[.int .u32 (crcOf t s.data.toList : Nat), .int .i64 0]) ∧ w = w' := by
  unfold maxLen at hs
  have HR := Lib.hid hR
  clear hR
  go_enter Try.func25, Try.ntmps25
  go_wp2
  go_loop [6, 7] (fun c i => ∃ k : Nat, k ≤ s.size ∧ i = .int .i64 k ∧ c = .int .u32 (Crc.sum t (s.data.toList.take k) 4294967295 : Nat)) (fun _ i => s.size - (intOf i).toNat)
  case atStart => exact ⟨0, by omega, rfl, rfl⟩
  case round =>
    obtain ⟨k, hk, rfl, rfl⟩ := hrel
    have hlt32 := Crc.sum_lt ht (s.data.toList.take k) (c := 4294967295) (by decide)
    by_cases hlt : k < s.size
    · have hsn := Lib.hid (sum_snoc t s k hlt 4294967295)
      generalize Crc.sum t (s.data.toList.take k) 4294967295 = c at *
      have hb := UInt8.toNat_lt s[k]
      have hx := u32_xor_b c s[k].toNat hlt32 hb
      obtain ⟨y, hy⟩ : ∃ y, y = c ^^^ s[k].toNat := ⟨_, rfl⟩
      rw [← hy] at hx
      have HX := Lib.hid hy
      have hyl : y < 4294967296 := by rw [hy]; exact Crc.xor32 hlt32 (by omega)
      clear hy
      obtain ⟨ad, hA, -, hct⟩ := HR.out (y % 256) (Nat.mod_lt _ (by decide))
      have h2 := u32_step c (t (y % 256)) hlt32 (ht _ (Nat.mod_lt _ (by decide)))
      have hm : y % 256 < 256 := Nat.mod_lt _ (by decide)
      subst hA
      go_wp2
      go_round
      case rel => 
        refine ⟨k + 1, by omega, by go_num, int_val ?_⟩
        rw [hsn.out]
        unfold Crc.two
        rw [← HX.out]
      case measure => simp [intOf]; omega
    · obtain rfl : k = s.size := by omega
      rw [List.take_of_length_le (by simp)] at hlt32 ⊢
      go_wp2
      go_ret2
      exact ⟨ret_two (int_val (u32_xor_m _ hlt32)) rfl, rfl⟩

theorem step_bits (c : Nat) (h : c < 4294967296) : bits .xor .u32 ((c : Int) / 2) 3988292384 = ((c / 2 ^^^ 3988292384 : Nat) : Int) := by
  rw [show (c : Int) / 2 = ((c / 2 : Nat) : Int) from by omega]
  exact u32_xor_nat _ 3988292384 (by omega) (by decide)
set_option maxRecDepth 100000 in
set_option maxHeartbeats 400000 in
theorem step_any (c : Nat) (hc : c < 4294967296) (w : World) :
    Calls Try.prog 59 #[.int .u32 c] w fun e w' => e = .returned (.int .u32 (Crc.step c : Nat)) ∧ w = w' := by
  have hb := step_bits c hc
  by_cases h : c % 2 = 1
  · have h0 : ((c : Int) % 2 == 1) = true := by rw [beq_iff_eq]; omega
    have HH := Lib.hid h
    clear h
    go_enter Try.func59, Try.ntmps59
    go_wp2
    go_ret
    exact ⟨ret_int (by unfold Crc.step; rw [if_pos HH.out]), rfl⟩
  · have h0 : ((c : Int) % 2 == 1) = false := by rw [beq_eq_false_iff_ne]; omega
    have HH := Lib.hid h
    clear h
    go_enter Try.func59, Try.ntmps59
    go_wp2
    go_ret
    exact ⟨ret_int (by unfold Crc.step; rw [if_neg HH.out]; omega), rfl⟩
theorem plain_snoc (s : ByteArray) (k : Nat) (h : k < s.size) (c : Nat) : Crc.plain (s.data.toList.take (k + 1)) c = Crc.one (Crc.plain (s.data.toList.take k) c) s[k].toNat := by
  rw [take_snoc s k h, Crc.plain_append]; rfl
def plainOf (l : List UInt8) : Nat := Crc.plain l 4294967295 ^^^ 4294967295
set_option maxRecDepth 100000 in
set_option maxHeartbeats 400000 in
theorem plain_any (s : ByteArray) (hs : s.size ≤ maxLen) (w : World) :
    Calls Try.prog 26 #[.string s] w fun e w' => e = .returned (.int .u32 (plainOf s.data.toList : Nat)) ∧ w = w' := by
  unfold maxLen at hs
  go_enter Try.func26, Try.ntmps26
  go_wp2
  go_loop [3, 4] (fun c i => ∃ k : Nat, k ≤ s.size ∧ i = .int .i64 k ∧ c = .int .u32 (Crc.plain (s.data.toList.take k) 4294967295 : Nat)) (fun _ i => s.size - (intOf i).toNat)
  case atStart => exact ⟨0, by omega, rfl, rfl⟩
  case round =>
    obtain ⟨k, hk, rfl, rfl⟩ := hrel
    have hlt32 := Crc.plain_lt (s.data.toList.take k) (c := 4294967295) (by decide)
    by_cases hlt : k < s.size
    · have hsn := Lib.hid (plain_snoc s k hlt 4294967295)
      generalize Crc.plain (s.data.toList.take k) 4294967295 = c at *
      have hb := UInt8.toNat_lt s[k]
      have hx := u32_xor_b c s[k].toNat hlt32 hb
      obtain ⟨y, hy⟩ : ∃ y, y = c ^^^ s[k].toNat := ⟨_, rfl⟩
      rw [← hy] at hx
      have HX := Lib.hid hy
      have hyl : y < 4294967296 := by rw [hy]; exact Crc.xor32 hlt32 (by omega)
      clear hy
      go_wp2
      go_loop [3, 5] (fun c j => ∃ m : Nat, m ≤ 8 ∧ j = .int .i64 m ∧ c = .int .u32 (Crc.steps m y)) (fun _ j => 8 - (intOf j).toNat)
      case atStart => exact ⟨0, by omega, rfl, rfl⟩
      case round =>
        obtain ⟨m, hm, rfl, rfl⟩ := hrel
        have hsl := Crc.steps_lt hyl m
        by_cases hlm : m < 8
        · go_wp2_with (go_at_call 59; refine (step_any _ hsl _).mono ?_; rintro e w' ⟨rfl, rfl⟩)
          go_round
          case rel => exact ⟨m + 1, by omega, by go_num, rfl⟩
          case measure => simp [intOf]; omega
        · go_wp2
          go_round
          case rel => 
            obtain rfl : m = 8 := by omega
            refine ⟨k + 1, by omega, by go_num, int_val ?_⟩
            rw [hsn.out]
            unfold Crc.one
            rw [← HX.out]
          case measure => simp [intOf]; omega
    · obtain rfl : k = s.size := by omega
      rw [List.take_of_length_le (by simp)] at hlt32 ⊢
      go_wp2
      go_ret
      exact ⟨ret_int (u32_xor_m _ hlt32), rfl⟩


def bytesOf (c : Nat) : List UInt8 := [UInt8.ofNat (c / 16777216), UInt8.ofNat (c / 65536), UInt8.ofNat (c / 256), UInt8.ofNat c]
def bytesV (c : Nat) : List Value := [.int .u8 ((c : Int) / 16777216), .int .u8 ((c : Int) / 65536 % 256), .int .u8 ((c : Int) / 256 % 256), .int .u8 ((c : Int) % 256)]
theorem bytesV_eq (c : Nat) (hc : c < 4294967296) : bytesV c = (bytesOf c).map b8 := by
  unfold bytesV bytesOf b8
  simp only [List.map_cons, List.map_nil, UInt8.toNat_ofNat']
  rw [Nat.mod_eq_of_lt (show c / 16777216 < 2 ^ 8 by omega)]
  simp only [Int.natCast_ediv, Int.natCast_emod]
  rfl
theorem bytesV_one (c : Nat) : ∀ u ∈ bytesV c, u.oneCell' = true := by
  intro u hu; simp [bytesV] at hu; rcases hu with rfl | rfl | rfl | rfl <;> rfl
theorem cells_new (W : World) (xs : List Value) (e : TypeId) (j : Nat) (u : Value) (h : xs[j]? = some u) : (W.alloc (.cells xs.toArray e)).cell? ((⟨W.heap.size, 0, none⟩ : Addr).add j) = some u := by
  rw [add_zero']
  have := World.cell?_alloc_mark W xs.toArray e (0, 0) j
  rw [this]; simpa using h
theorem conv4 (W : World) (c : Nat) (hc : c < 4294967296) :
    (convert 33 9 (.slice (some ⟨W.heap.size, 0, none⟩) 4 4)).run Try.prog (W.alloc (.cells #[.int .u8 ((c : Int) / 16777216), .int .u8 ((c : Int) / 65536 % 256), .int .u8 ((c : Int) / 256 % 256), .int .u8 ((c : Int) % 256)] 5)) =
      .ok (.string ⟨(bytesOf c).toArray⟩) (W.alloc (.cells #[.int .u8 ((c : Int) / 16777216), .int .u8 ((c : Int) / 65536 % 256), .int .u8 ((c : Int) / 256 % 256), .int .u8 ((c : Int) % 256)] 5)) := by
  refine run_convert_bytes_back _ 33 9 5 _ 4 (bytesOf c) Try.underlying33 Try.underlying5 Try.underlying9 fun j hj => ?_
  refine cells_new W (bytesV c) _ j _ ?_
  rw [bytesV_eq c hc, List.getElem?_map, List.getElem?_eq_getElem hj]
  rfl
set_option maxRecDepth 100000 in
set_option maxHeartbeats 400000 in
theorem bytes_any (c : Nat) (hc : c < 4294967296) (w : World) :
    Calls Try.prog 27 #[.int .u32 c] w fun e w' => e = .returned (.string ⟨(bytesOf c).toArray⟩) ∧ Below w.heap.size w w' := by
  have hcv := conv4 w c hc
  generalize hB : (bytesOf c).toArray = B at *
  clear hB
  go_enter Try.func27, Try.ntmps27
  go_wp2
  go_ret
  exact ⟨rfl, (Below.refl _ _).alloc (Nat.le_refl _) _⟩
theorem info_u8 : (Try.prog.info? 5).map (fun i => (i.zero, i.size, i.bytes)) = some (some (.int .u8 0), 1, 1) := by kernel_rfl
set_option maxRecDepth 100000 in
set_option maxHeartbeats 400000 in
theorem refbytes_any (c : Nat) (hc : c < 4294967296) (w : World) :
    Calls Try.prog 28 #[.int .u32 c] w fun e w' => e = .returned (.string ⟨(bytesOf c).toArray⟩) ∧ Below w.heap.size w w' := by
  obtain ⟨i0, hi, hz0, hz1, hz2⟩ := info_parts info_u8
  have HE := Lib.hid (bytesV_eq c hc)
  go_enter Try.func28, Try.ntmps28
  go_wp2_with (at_builtin; refine wpList_append_own _ rfl _ _ 33 rfl w.heap.size 5 i0 (.int .u8 0) 1 1 Try.underlying33 hi hz0 hz1 hz2 rfl (by decide) (.slice none 0 0) 0 [] rfl (World.ownsRow_nil _ _ _ _) ⟨w.heap.size, 0, none⟩ 4 4 (bytesV c) rfl rfl (fun j u hu => cells_new _ _ _ j u hu) (bytesV_one c) (by unfold maxLen; omega) (by omega) (by simp) ?_; intro v' w1 hown' hgrow _; have hcv := conv_own (P := Try.prog) w1 33 9 5 w.heap.size v' (0 + 4) (bytesOf c) Try.underlying33 Try.underlying5 Try.underlying9 (by rw [← HE.out]; simpa using hown'))
  have hB : Below w.heap.size w w1 := ((Below.refl _ _).alloc (Nat.le_refl _) _).grown hgrow (by simp) (fun k h => by cases h)
  go_ret
  exact ⟨rfl, hB⟩
def tabL (k : Nat) : List Value := (List.range k).map fun i => .int .u32 (Crc.tab i : Nat)
theorem tabL_succ (k : Nat) : tabL (k + 1) = tabL k ++ [.int .u32 (Crc.tab k : Nat)] := by unfold tabL; rw [List.range_succ]; simp
theorem one_cell (W : World) (u : Value) (e : TypeId) (j : Nat) (v : Value) (h : [u][j]? = some v) : (W.alloc (.cells #[u] e)).cell? ((⟨W.heap.size, 0, none⟩ : Addr).add j) = some v := cells_new W [u] e j v h
set_option maxRecDepth 100000 in
set_option maxHeartbeats 400000 in
theorem reftable_any (w : World) :
    Calls Try.prog 22 #[] w fun e w' => ∃ v, e = .returned v ∧ w'.ownsRow w.heap.size 24 1 v 256 (tabL 256) ∧ Below w.heap.size w w' := by
  obtain ⟨i0, hi, hz0, hz1, hz2⟩ := info_parts info_u32
  go_enter Try.func22, Try.ntmps22
  go_wp2
  go_loopw [1, 2] (fun v i wr => ∃ k : Nat, k ≤ 256 ∧ i = .int .i64 k ∧ wr.ownsRow w.heap.size 24 1 v k (tabL k) ∧ Below w.heap.size w wr) (fun _ i _ => 256 - (intOf i).toNat)
  case atStart => exact ⟨0, by omega, rfl, World.ownsRow_nil _ _ _ _, Below.refl _ _⟩
  case round =>
    obtain ⟨k, hk, rfl, hO, hB⟩ := hrel
    by_cases hlt : k < 256
    · have hd : decide ((k : Int) < 256) = true := by simp; omega
      go_wp2
      go_loop [3, 4] (fun c j => ∃ m : Nat, m ≤ 8 ∧ j = .int .i64 m ∧ c = .int .u32 (Crc.steps m k)) (fun _ j => 8 - (intOf j).toNat)
      case atStart => exact ⟨0, by omega, rfl, rfl⟩
      case round =>
        obtain ⟨m, hm, rfl, rfl⟩ := hrel
        have hsl := Crc.steps_lt (c := k) (by omega) m
        by_cases hlm : m < 8
        · go_wp2_with (go_at_call 59; refine (step_any _ hsl _).mono ?_; rintro e w' ⟨rfl, rfl⟩)
          go_round
          case rel => exact ⟨m + 1, by omega, by go_num, rfl⟩
          case measure => simp [intOf]; omega
        · obtain rfl : m = 8 := by omega
          clear hm hlm
          have HO := hO
          have hsz := hB.size
          go_wp2_with (at_builtin; refine wpList_append_own _ rfl _ _ 22 rfl w.heap.size 24 i0 (.int .u32 0) 1 4 Try.underlying22 hi hz0 hz1 hz2 rfl (by decide) _ _ _ rfl (hO.alloc _) ⟨wr.heap.size, 0, none⟩ 1 1 [.int .u32 (Crc.steps 8 k : Nat)] rfl rfl (one_cell _ _ _) (fun u hu => by simp at hu; subst hu; rfl) (by unfold maxLen; omega) (by omega) (by simp; omega) ?_; intro v' w1 hown' hgrow _)
          go_roundw
          case rel =>
            refine ⟨k + 1, by omega, by go_num, by rw [tabL_succ]; exact hown', (hB.alloc hB.size _).grown hgrow (by simp; omega) (fun j h => (hO.lt j h).1)⟩
          case measure => simp [intOf]; omega
    · obtain rfl : k = 256 := by omega
      go_wp2
      go_ret
      exact ⟨_, rfl, hO, hB⟩

def xorB (a b : ByteArray) (k : Nat) : List UInt8 := (List.zipWith (· ^^^ ·) a.data.toList b.data.toList).take k
theorem xorB_succ (a b : ByteArray) (k : Nat) (ha : k < a.size) (hb : k < b.size) : xorB a b (k + 1) = xorB a b k ++ [a[k] ^^^ b[k]] := by
  unfold xorB
  rw [List.take_succ_eq_append_getElem (by simpa using Nat.lt_min.2 ⟨ha, hb⟩)]
  simp; constructor <;> rfl
theorem u8_xor_b (a b : UInt8) : bits .xor .u8 (a.toNat : Int) (b.toNat : Int) = ((a ^^^ b).toNat : Int) := by
  rw [u8_xor_nat _ _ (UInt8.toNat_lt a) (UInt8.toNat_lt b), UInt8.toNat_xor]
set_option maxRecDepth 100000 in
set_option maxHeartbeats 400000 in
theorem turned_any (a b : ByteArray) (ha : a.size ≤ 65536) (w : World) :
    Calls Try.prog 29 #[.string a, .string b] w fun e w' => e = .returned (.string ⟨(List.zipWith (· ^^^ ·) a.data.toList b.data.toList).toArray⟩) ∧ Below w.heap.size w w' := by
  obtain ⟨L, hL⟩ : ∃ L, L = List.zipWith (· ^^^ ·) a.data.toList b.data.toList := ⟨_, rfl⟩
  rw [← hL]
  have HL := Lib.hid hL
  clear hL
  obtain ⟨i0, hi, hz0, hz1, hz2⟩ := info_parts info_u8
  go_enter Try.func29, Try.ntmps29
  go_wp2
  go_loopw [5, 6] (fun v i wr => ∃ k : Nat, k ≤ a.size ∧ k ≤ b.size ∧ i = .int .i64 k ∧ wr.ownsRow w.heap.size 5 1 v k ((xorB a b k).map b8) ∧ Below w.heap.size w wr) (fun _ i _ => a.size - (intOf i).toNat)
  case atStart => exact ⟨0, by omega, by omega, rfl, World.ownsRow_nil _ _ _ _, Below.refl _ _⟩
  case round =>
    obtain ⟨k, hk, hk2, rfl, hO, hB⟩ := hrel
    by_cases hlt : k < a.size
    · by_cases hlt2 : k < b.size
      · have hx := u8_xor_b a[k] b[k]
        have hXS := xorB_succ a b k hlt hlt2
        obtain ⟨x, hx0⟩ : ∃ x, x = a[k] ^^^ b[k] := ⟨_, rfl⟩
        rw [← hx0] at hx hXS
        clear hx0
        have HX := Lib.hid hXS
        clear hXS
        have hsz := hB.size
        go_wp2_with fail
        go_region_held3 (fun _ => True) (trivial) ((refine step_append_lies _ (by rfl) _ _ 33 (by rfl) w.heap.size 5 i0 (.int .u8 0) 1 1 Try.underlying33 hi hz0 hz1 hz2 rfl (by decide) u5 k _ (by rfl) (by exact hO.alloc _) ⟨wr.heap.size, 0, none⟩ 1 1 [.int .u8 (x.toNat : Int)] (by rfl) rfl (by exact one_cell wr _ _) (fun u hu => by simp at hu; subst hu; rfl) (by decide) (by unfold maxLen; omega) (by omega) (by simp; omega) (wr.heap.size + 1) (by simp) ?_; intro g cap w1 hown1 hgrow _ _))
        go_wp2
        all_goals
          go_roundw
          case rel => exact ⟨k + 1, by omega, by omega, by go_num, by rw [HX.out, List.map_append]; exact hown1, ((hB.alloc hB.size _).drew).grown hgrow (by simp; omega) (fun j h => (hO.lt j h).1)⟩
          case measure => simp [intOf]; omega
      · have he : xorB a b k = L := by rw [HL.out]; exact List.take_of_length_le (by simp; omega)
        rw [he] at hO
        clear he
        have hcv := conv_own (P := Try.prog) wr 33 9 5 w.heap.size _ _ _ Try.underlying33 Try.underlying5 Try.underlying9 hO
        clear hO
        go_wp2
        go_ret
        exact ⟨rfl, hB⟩
    · have he : xorB a b k = L := by rw [HL.out]; exact List.take_of_length_le (by simp; omega)
      rw [he] at hO
      clear he
      have hcv := conv_own (P := Try.prog) wr 33 9 5 w.heap.size _ _ _ Try.underlying33 Try.underlying5 Try.underlying9 hO
      clear hO
      go_wp2
      go_ret
      exact ⟨rfl, hB⟩
theorem tab_row {w w' : World} (h : w'.rowIs w.heap.size 24 256 (tabF 256)) : Row1 w' w'.heap.size (some ⟨w.heap.size, 0, none⟩) 256 (fun i => .int .u32 (Crc.tab i : Nat)) :=
  (Row1.of_row h).congr fun i hi => by simp only [tabF, tabN]; rw [if_pos hi]
theorem tabok : ∀ i, i < 256 → Crc.tab i < 4294967296 := fun _ h => Crc.tab_lt h
theorem crcOf_lt {t : Nat → Nat} (ht : ∀ i, i < 256 → t i < 4294967296) (l : List UInt8) : crcOf t l < 4294967296 := Crc.xor32 (Crc.sum_lt ht l (by decide)) (by decide)
theorem crc_nine : crcOf Crc.tab [49, 50, 51, 52, 53, 54, 55, 56, 57] = 3421780262 := by decide +kernel
theorem bytes_nine : (bytesOf 3421780262).toArray = #[203, 244, 57, 38] := by decide +kernel
set_option maxRecDepth 100000 in
set_option maxHeartbeats 400000 in
theorem awake2_any (w : World) :
    Calls Try.prog 23 #[] w fun e w' => e = .returned (.bool true) ∧ Below w.heap.size w w' := by
  go_enter Try.func23, Try.ntmps23
  go_wp2_with fail
  refine (table_any _).mono ?_
  rintro e w1 ⟨rfl, hR1, hB1⟩
  go_wp2_with fail
  refine (sum_ok _ _ Crc.tab tabok _ (by decide) _ (tab_row hR1)).mono ?_
  rintro e w2 ⟨rfl, hB2⟩
  rw [show (⟨#[49, 50, 51, 52, 53, 54, 55, 56, 57]⟩ : ByteArray).data.toList = [49, 50, 51, 52, 53, 54, 55, 56, 57] from rfl, crc_nine]
  go_wp2_with fail
  refine (bytes_any 3421780262 (by decide) _).mono ?_
  rintro e w3 ⟨rfl, hB3⟩
  rw [bytes_nine]
  go_wp2
  go_ret
  exact ⟨rfl, bt hB1 (bt hB2 hB3)⟩
end Go.Proofs.Ytjeiklgaiefeaaa
