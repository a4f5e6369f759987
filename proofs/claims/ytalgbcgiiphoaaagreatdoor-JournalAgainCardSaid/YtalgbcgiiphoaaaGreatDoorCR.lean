/- The plain law of sums of bytes: a sum made with the table is the sum bit by bit; a step is one to one, and goes through exclusive-or. No condition. | What the functions of crcsum and its reference compute: the table, the sum with a table, the sum bit by bit, a sum's bytes. Conditions: a table that is read has 256 numbers below 2^32. -/
import Init.Data.Nat.Bitwise
import Init.Data.UInt.Lemmas
import Derived.Test.YtalgbcgiiphoaaaGreatDoorPA
import Derived.OwnWalk
import Derived.Deep.RegionHeld3
import Derived.Deep.AppendLies
section
namespace Go.Proofs.YtalgbcgiiphoaaaGreatDoor.Crc

def step (c : Nat) : Nat := if c % 2 = 1 then (c / 2) ^^^ 3988292384 else c / 2
def steps : Nat → Nat → Nat
  | 0, c => c
  | k + 1, c => step (steps k c)
def tab (i : Nat) : Nat := steps 8 i
/-- one byte, bit by bit -/
def one (c b : Nat) : Nat := steps 8 (c ^^^ b)
def plain (l : List UInt8) (c : Nat) : Nat := l.foldl (fun c b => one c b.toNat) c
/-- one byte, with a table -/
def two (t : Nat → Nat) (c b : Nat) : Nat := (c / 256) ^^^ t ((c ^^^ b) % 256)
def sum (t : Nat → Nat) (l : List UInt8) (c : Nat) : Nat := l.foldl (fun c b => two t c b.toNat) c

theorem xor_half (a b : Nat) : (a ^^^ b) / 2 = (a / 2) ^^^ (b / 2) := by
  apply Nat.eq_of_testBit_eq
  intro i
  simp [Nat.testBit_div_two]
theorem xor_odd (a b : Nat) : (a ^^^ b) % 2 = (a % 2 + b % 2) % 2 := by
  have h := Nat.testBit_xor a b 0
  simp only [Nat.testBit_zero] at h
  have h1 := Nat.mod_two_eq_zero_or_one a
  have h2 := Nat.mod_two_eq_zero_or_one b
  have h3 := Nat.mod_two_eq_zero_or_one (a ^^^ b)
  rcases h1 with h1 | h1 <;> rcases h2 with h2 | h2 <;> rcases h3 with h3 | h3 <;> simp_all
theorem xor_lt {a b n : Nat} (ha : a < 2 ^ n) (hb : b < 2 ^ n) : a ^^^ b < 2 ^ n := Nat.xor_lt_two_pow ha hb
theorem xor32 {a b : Nat} (ha : a < 4294967296) (hb : b < 4294967296) : a ^^^ b < 4294967296 := xor_lt (n := 32) ha hb

theorem step_lt {c : Nat} (h : c < 4294967296) : step c < 4294967296 := by
  unfold step
  split
  · exact xor32 (by omega) (by omega)
  · omega
theorem steps_lt {c : Nat} (h : c < 4294967296) : ∀ k, steps k c < 4294967296
  | 0 => h
  | k + 1 => step_lt (steps_lt h k)
theorem tab_lt {i : Nat} (h : i < 256) : tab i < 4294967296 := steps_lt (by omega) 8
theorem one_lt {c b : Nat} (hc : c < 4294967296) (hb : b < 256) : one c b < 4294967296 := steps_lt (xor32 hc (by omega)) 8
theorem two_lt {t : Nat → Nat} (ht : ∀ i, i < 256 → t i < 4294967296) {c b : Nat} (hc : c < 4294967296) : two t c b < 4294967296 :=
  xor32 (by omega) (ht _ (Nat.mod_lt _ (by decide)))
theorem plain_lt (l : List UInt8) : ∀ {c : Nat}, c < 4294967296 → plain l c < 4294967296 := by
  induction l with
  | nil => intro c h; exact h
  | cons b l ih => intro c h; exact ih (one_lt h (UInt8.toNat_lt b))
theorem sum_lt {t : Nat → Nat} (ht : ∀ i, i < 256 → t i < 4294967296) (l : List UInt8) : ∀ {c : Nat}, c < 4294967296 → sum t l c < 4294967296 := by
  induction l with
  | nil => intro c h; exact h
  | cons b l ih => intro c h; exact ih (two_lt ht h)

theorem step_xor (a b : Nat) : step (a ^^^ b) = step a ^^^ step b := by
  unfold step
  rw [xor_half, xor_odd]
  have ha := Nat.mod_two_eq_zero_or_one a
  have hb := Nat.mod_two_eq_zero_or_one b
  rcases ha with ha | ha <;> rcases hb with hb | hb <;> simp only [ha, hb] <;> simp
  · rw [Nat.xor_assoc]
  · rw [Nat.xor_assoc, Nat.xor_assoc, Nat.xor_comm (b / 2)]
  · rw [show (a / 2 ^^^ 3988292384) ^^^ (b / 2 ^^^ 3988292384) = (a / 2 ^^^ b / 2) ^^^ (3988292384 ^^^ 3988292384) from by ac_rfl]
    simp
theorem steps_xor (a b : Nat) : ∀ k, steps k (a ^^^ b) = steps k a ^^^ steps k b
  | 0 => rfl
  | k + 1 => by simp only [steps]; rw [steps_xor a b k, step_xor]
theorem step_even (x : Nat) : step (2 * x) = x := by unfold step; rw [if_neg (by omega)]; omega
theorem steps_succ' (k c : Nat) : steps (k + 1) c = steps k (step c) := by
  induction k generalizing c with
  | zero => rfl
  | succ k ih => show step (steps (k + 1) c) = step (steps k (step c)); rw [ih]
theorem steps_pow (x : Nat) : ∀ k, steps k (2 ^ k * x) = x
  | 0 => by simp [steps]
  | k + 1 => by
    rw [steps_succ', show 2 ^ (k + 1) * x = 2 * (2 ^ k * x) from by rw [Nat.pow_succ]; ac_rfl, step_even]
    exact steps_pow x k
theorem split8 (c : Nat) : (256 * (c / 256)) ^^^ (c % 256) = c := by
  have h1 : 256 * (c / 256) ^^^ c % 256 = 256 * (c / 256) + c % 256 := by
    apply Nat.eq_of_testBit_eq
    intro i
    rw [show (256 : Nat) = 2 ^ 8 from rfl, Nat.testBit_two_pow_mul_add _ (Nat.mod_lt _ (by decide)), Nat.testBit_xor, Nat.testBit_two_pow_mul, Nat.testBit_mod_two_pow]
    by_cases hi : i < 8
    · simp [hi, show ¬ 8 ≤ i by omega]
    · simp [hi, show 8 ≤ i by omega]
  rw [h1]
  exact Nat.div_add_mod c 256
theorem steps8 (c : Nat) : steps 8 c = (c / 256) ^^^ tab (c % 256) := by
  rw [show steps 8 c = steps 8 ((256 * (c / 256)) ^^^ (c % 256)) from by rw [split8], steps_xor]
  rw [show 256 * (c / 256) = 2 ^ 8 * (c / 256) from rfl, steps_pow]
  rfl
theorem xor_div256 (c b : Nat) (hb : b < 256) : (c ^^^ b) / 256 = c / 256 := by
  apply Nat.eq_of_testBit_eq
  intro i
  rw [show (256 : Nat) = 2 ^ 8 from rfl, Nat.testBit_div_two_pow, Nat.testBit_div_two_pow, Nat.testBit_xor, Nat.testBit_lt_two_pow (x := b) (Nat.lt_of_lt_of_le hb (by
    rw [show (256 : Nat) = 2 ^ 8 from rfl]; exact Nat.pow_le_pow_right (by decide) (by omega)))]
  simp
theorem one_two (c b : Nat) (hb : b < 256) : one c b = two tab c b := by
  unfold one two
  rw [steps8, xor_div256 c b hb]
theorem sum_plain (l : List UInt8) : ∀ c, sum tab l c = plain l c := by
  induction l with
  | nil => intro c; rfl
  | cons b l ih =>
    intro c
    show sum tab l (two tab c b.toNat) = plain l (one c b.toNat)
    rw [one_two _ _ (UInt8.toNat_lt b), ih]

theorem xor_cancel {a b c : Nat} (h : a ^^^ c = b ^^^ c) : a = b := by
  have : (a ^^^ c) ^^^ c = (b ^^^ c) ^^^ c := by rw [h]
  simpa [Nat.xor_assoc] using this
theorem xor_cancel' {a b c : Nat} (h : c ^^^ a = c ^^^ b) : a = b := xor_cancel (c := c) (by rw [Nat.xor_comm a, Nat.xor_comm b]; exact h)
theorem step_inj {a b : Nat} (ha : a < 4294967296) (hb : b < 4294967296) (h : step a = step b) : a = b := by
  unfold step at h
  have key : ∀ x y : Nat, x < 2147483648 → y < 2147483648 → x ^^^ 3988292384 ≠ y := by
    intro x y hx hy he
    have := congrArg (fun n => n.testBit 31) he
    simp only [Nat.testBit_xor] at this
    rw [Nat.testBit_lt_two_pow (show x < 2 ^ 31 from hx), Nat.testBit_lt_two_pow (show y < 2 ^ 31 from hy)] at this
    revert this
    decide
  by_cases h1 : a % 2 = 1 <;> by_cases h2 : b % 2 = 1
  · rw [if_pos h1, if_pos h2] at h
    have := xor_cancel h
    omega
  · rw [if_pos h1, if_neg h2] at h
    exact absurd h (key _ _ (by omega) (by omega))
  · rw [if_neg h1, if_pos h2] at h
    exact absurd h.symm (key _ _ (by omega) (by omega))
  · rw [if_neg h1, if_neg h2] at h
    omega
theorem steps_inj {a b : Nat} (ha : a < 4294967296) (hb : b < 4294967296) : ∀ k, steps k a = steps k b → a = b
  | 0, h => h
  | k + 1, h => steps_inj ha hb k (step_inj (steps_lt ha k) (steps_lt hb k) h)
theorem one_inj {a b x : Nat} (ha : a < 4294967296) (hb : b < 4294967296) (hx : x < 256) (h : one a x = one b x) : a = b :=
  xor_cancel (steps_inj (xor32 ha (by omega)) (xor32 hb (by omega)) 8 h)
theorem one_inj' {a x y : Nat} (ha : a < 4294967296) (hx : x < 256) (hy : y < 256) (h : one a x = one a y) : x = y :=
  xor_cancel' (steps_inj (xor32 ha (by omega)) (xor32 ha (by omega)) 8 h)
theorem plain_inj (l : List UInt8) : ∀ {a b : Nat}, a < 4294967296 → b < 4294967296 → plain l a = plain l b → a = b := by
  induction l with
  | nil => intro a b _ _ h; exact h
  | cons x l ih =>
    intro a b ha hb h
    exact one_inj ha hb (UInt8.toNat_lt x) (ih (one_lt ha (UInt8.toNat_lt x)) (one_lt hb (UInt8.toNat_lt x)) h)
theorem plain_append (l m : List UInt8) (c : Nat) : plain (l ++ m) c = plain m (plain l c) := by unfold plain; rw [List.foldl_append]
theorem sum_append (t : Nat → Nat) (l m : List UInt8) (c : Nat) : sum t (l ++ m) c = sum t m (sum t l c) := by unfold sum; rw [List.foldl_append]
/-- one byte is another one: another sum -/
theorem plain_ne (l m : List UInt8) (x y : UInt8) (hxy : x ≠ y) {c : Nat} (hc : c < 4294967296) : plain (l ++ [x] ++ m) c ≠ plain (l ++ [y] ++ m) c := by
  intro h
  rw [plain_append, plain_append, plain_append, plain_append] at h
  have h1 := plain_inj m (plain_lt [x] (plain_lt l hc)) (plain_lt [y] (plain_lt l hc)) h
  exact hxy (UInt8.toNat_inj.1 (one_inj' (plain_lt l hc) (UInt8.toNat_lt x) (UInt8.toNat_lt y) h1))
theorem one_xor (a b c x y z : Nat) : one a x ^^^ one b y ^^^ one c z = one (a ^^^ b ^^^ c) (x ^^^ y ^^^ z) := by
  unfold one
  rw [← steps_xor, ← steps_xor]
  congr 1
  ac_rfl
theorem plain_three : ∀ (l m n : List UInt8) (a b c : Nat), l.length = m.length → m.length = n.length →
    plain l a ^^^ plain m b ^^^ plain n c = plain (List.zipWith (· ^^^ ·) (List.zipWith (· ^^^ ·) l m) n) (a ^^^ b ^^^ c)
  | [], [], [], a, b, c, _, _ => rfl
  | x :: l, y :: m, z :: n, a, b, c, h1, h2 => by
    show plain l (one a x.toNat) ^^^ plain m (one b y.toNat) ^^^ plain n (one c z.toNat) = plain _ (one (a ^^^ b ^^^ c) (x ^^^ y ^^^ z).toNat)
    rw [plain_three l m n _ _ _ (by simpa using h1) (by simpa using h2), one_xor]
    simp
end Go.Proofs.YtalgbcgiiphoaaaGreatDoor.Crc
end
section
namespace Go.Proofs.YtalgbcgiiphoaaaGreatDoor
open Go.RowKit

theorem crc_bits (c : Nat) (h : c < 4294967296) :
    bits .xor .u32 ((c : Int) / 2) (bits .and .u32 3988292384 (-bits .and .u32 (c : Int) 1 % 4294967296)) = (Crc.step c : Nat) := by
  have h1 := u32_and_nat c 1 h (by decide)
  have h2 : c &&& 1 = c % 2 := Nat.and_one_is_mod c
  rw [h2] at h1
  rw [show ((1 : Nat) : Int) = 1 from rfl] at h1
  rw [h1]
  unfold Crc.step
  rw [show (c : Int) / 2 = ((c / 2 : Nat) : Int) from by omega]
  by_cases ho : c % 2 = 1
  · rw [if_pos ho, ho]
    rw [show (-((1 : Nat) : Int) % 4294967296) = ((4294967295 : Nat) : Int) from by decide]
    have h3 := u32_and_nat 3988292384 4294967295 (by decide) (by decide)
    rw [show ((3988292384 : Nat) : Int) = 3988292384 from rfl] at h3
    rw [h3, show 3988292384 &&& 4294967295 = 3988292384 from by decide, u32_xor_nat _ _ (by omega) (by decide)]
  · rw [if_neg ho, show c % 2 = 0 from by omega]
    rw [show (-((0 : Nat) : Int) % 4294967296) = ((0 : Nat) : Int) from by decide]
    have h3 := u32_and_nat 3988292384 0 (by decide) (by decide)
    rw [show ((3988292384 : Nat) : Int) = 3988292384 from rfl] at h3
    rw [h3, show 3988292384 &&& 0 = 0 from by decide, u32_xor_nat _ _ (by omega) (by decide)]
    simp
theorem info_u32 : (Tryz.prog.info? 56).map (fun i => (i.zero, i.size, i.bytes)) = some (some (.int .u32 0), 1, 4) := by kernel_rfl
theorem make256 (W : World) : (Instr.makeSlice 27 (.int .i64 256) (.int .i64 256)).run Tryz.prog W = .ok (.slice (some ⟨W.heap.size, 0, none⟩) 256 256) (W.alloc (.cells (madeCells #[.int .u32 0] 256) 56)) :=
  run_make_row' (P := Tryz.prog) 27 56 (.int .u32 0) 4 Tryz.underlying27 info_u32 rfl .i64 .i64 256 (by omega) (by omega) W
def tabN (k i : Nat) : Nat := if i < k then Crc.tab i else 0
def tabF (k i : Nat) : Value := .int .u32 (tabN k i : Nat)
theorem take_snoc (s : ByteArray) (k : Nat) (h : k < s.size) : s.data.toList.take (k + 1) = s.data.toList.take k ++ [s[k]] := by
  rw [List.take_succ_eq_append_getElem (by simpa using h)]; rfl

/-- the sum of a text with a table -/
def crcOf (t : Nat → Nat) (l : List UInt8) : Nat := Crc.sum t l 4294967295 ^^^ 4294967295
theorem xor_mod256 (c b : Nat) (hb : b < 256) : (c % 256) ^^^ b = (c ^^^ b) % 256 := by
  rw [show (256 : Nat) = 2 ^ 8 from rfl, Nat.xor_mod_two_pow, Nat.mod_eq_of_lt (show b < 2 ^ 8 from hb)]
theorem u8_idx (c b : Nat) (hb : b < 256) : bits .xor .u8 ((c : Int) % 256) (b : Int) = ((c ^^^ b) % 256 : Nat) := by
  rw [show (c : Int) % 256 = ((c % 256 : Nat) : Int) from by omega, u8_xor_nat _ _ (Nat.mod_lt _ (by decide)) hb, xor_mod256 _ _ hb]
theorem u32_step (c x : Nat) (hc : c < 4294967296) (hx : x < 4294967296) : bits .xor .u32 ((c : Int) / 256) (x : Int) = ((c / 256) ^^^ x : Nat) := by
  rw [show (c : Int) / 256 = ((c / 256 : Nat) : Int) from by omega, u32_xor_nat _ _ (by omega) hx]
theorem sum_snoc (t : Nat → Nat) (s : ByteArray) (k : Nat) (h : k < s.size) (c : Nat) : Crc.sum t (s.data.toList.take (k + 1)) c = Crc.two t (Crc.sum t (s.data.toList.take k) c) s[k].toNat := by
  rw [take_snoc s k h, Crc.sum_append]; rfl
theorem u32_inv (c : Nat) (hc : c < 4294967296) : bits .xor .u32 IntKind.u32.max (c : Int) = ((c ^^^ 4294967295 : Nat) : Int) := by
  rw [show IntKind.u32.max = ((4294967295 : Nat) : Int) from by decide, u32_xor_nat _ _ (by decide) hc, Nat.xor_comm]
theorem ret_two {a b : Value} {x y : Value} (h : a = x) (h' : b = y) : Ending.returned (.tuple #[a, b]) = .returned (.tuple #[x, y]) := by rw [h, h']

set_option maxRecDepth 100000 in
set_option maxHeartbeats 400000 in
theorem sum_ok (A : Option Addr) (cap : Nat) (t : Nat → Nat) (ht : ∀ i, i < 256 → t i < 4294967296) (s : ByteArray) (hs : s.size ≤ maxLen) (w : World) (hR : Row1 w w.heap.size A 256 (fun i => .int .u32 (t i : Nat))) :
    Calls Tryz.prog 36 #[.slice A 256 cap, .string s] w fun e w' => e = .returned (.tuple #[.int .u32 (crcOf t s.data.toList : Nat), .int .i64 0]) ∧ Below w.heap.size w w' := by
  unfold maxLen at hs
  have hcv := fun W => run_bytes_of_string (P := Tryz.prog) W 9 98 5 s Tryz.underlying9 Tryz.underlying98 Tryz.underlying5
  go_enter Tryz.func36, Tryz.ntmps36
  go_wp2
  clear hcv
  go_loopw [6, 15] (fun c i wr => ∃ k : Nat, k ≤ s.size ∧ i = .int .i64 k ∧ c = .int .u32 (Crc.sum t (s.data.toList.take k) 4294967295 : Nat) ∧ (∀ j, (hj : j < s.size) → wr.cell? ⟨w.heap.size, j, none⟩ = some (.int .u8 (s[j].toNat : Int))) ∧ Row1 wr w.heap.size A 256 (fun i => .int .u32 (t i : Nat)) ∧ Below w.heap.size w wr) (fun _ i _ => s.size - (intOf i).toNat)
  case atStart =>
    refine ⟨0, by omega, rfl, rfl, fun j hj => ?_, hR.keep fun p hp => World.cell?_alloc_lt _ _ _ hp, (Below.refl _ _).drew.alloc (Nat.le_refl _) _⟩
    exact (World.cell?_alloc_mark _ _ _ _ j).trans (bytesRow_at s _ j hj)
  case round =>
    obtain ⟨k, hk, rfl, rfl, hS, hT, hB⟩ := hrel
    have hlt32 := Crc.sum_lt ht (s.data.toList.take k) (c := 4294967295) (by decide)
    by_cases hlt : k < s.size
    · have hcs := hS k hlt
      have hsn := Lib.hid (sum_snoc t s k hlt 4294967295)
      generalize Crc.sum t (s.data.toList.take k) 4294967295 = c at *
      have hb := UInt8.toNat_lt s[k]
      have hx := u8_idx c s[k].toNat hb
      obtain ⟨x, hxx⟩ : ∃ x, x = (c ^^^ s[k].toNat) % 256 := ⟨_, rfl⟩
      rw [← hxx] at hx
      have hxl : x < 256 := by rw [hxx]; exact Nat.mod_lt _ (by decide)
      have HX := Lib.hid hxx
      clear hxx
      obtain ⟨ad, hA, -, hct⟩ := hT x hxl
      have h2 := u32_step c (t x) hlt32 (ht x hxl)
      have HS := Lib.hid hS
      have HT := Lib.hid hT
      clear hS hT hR
      subst hA
      go_wp2
      go_roundw
      case rel => 
        refine ⟨k + 1, by omega, by go_num, int_val ?_, HS.out, HT.out, hB⟩
        rw [hsn.out]
        unfold Crc.two
        rw [← HX.out]
      case measure => simp [intOf]; omega
    · obtain rfl : k = s.size := by omega
      rw [List.take_of_length_le (by simp)] at hlt32 ⊢
      clear hS hT hR
      go_wp2
      go_ret2
      exact ⟨ret_two (int_val (u32_inv _ hlt32)) rfl, hB⟩

set_option maxRecDepth 100000 in
set_option maxHeartbeats 400000 in
theorem sum_bad (A : Option Addr) (n cap : Nat) (hn : n ≠ 256) (s : ByteArray) (w : World) :
    Calls Tryz.prog 36 #[.slice A n cap, .string s] w fun e w' => e = .returned (.tuple #[.int .u32 0, .int .i64 1]) ∧ w = w' := by
  have h0 : ((n : Int) != 256) = true := by rw [bne_iff_ne]; omega
  go_enter Tryz.func36, Tryz.ntmps36
  go_wp2
  go_ret2
  exact ⟨rfl, rfl⟩

theorem u32_xor_b (c b : Nat) (hc : c < 4294967296) (hb : b < 256) : bits .xor .u32 (c : Int) (b : Int) = ((c ^^^ b : Nat) : Int) := u32_xor_nat _ _ hc (by omega)
theorem u32_xor_m (c : Nat) (hc : c < 4294967296) : bits .xor .u32 (c : Int) 4294967295 = ((c ^^^ 4294967295 : Nat) : Int) := u32_xor_nat _ 4294967295 hc (by decide)

set_option maxRecDepth 100000 in
set_option maxHeartbeats 400000 in
theorem refsum_bad (A : Option Addr) (n cap : Nat) (hn : n ≠ 256) (s : ByteArray) (w : World) :
    Calls Tryz.prog 66 #[.slice A n cap, .string s] w fun e w' => e = .returned (.tuple #[.int .u32 0, .int .i64 1]) ∧ w = w' := by
  have h0 : ((n : Int) != 256) = true := by rw [bne_iff_ne]; omega
  go_enter Tryz.func66, Tryz.ntmps66
  go_wp2
  go_ret2
  exact ⟨rfl, rfl⟩

set_option maxRecDepth 100000 in
set_option maxHeartbeats 400000 in
theorem refsum_ok (A : Option Addr) (cap : Nat) (t : Nat → Nat) (ht : ∀ i, i < 256 → t i < 4294967296) (s : ByteArray) (hs : s.size ≤ maxLen) (w : World) (hR : Row1 w w.heap.size A 256 (fun i => .int .u32 (t i : Nat))) :
    Calls Tryz.prog 66 #[.slice A 256 cap, .string s] w fun e w' => e = .returned (.tuple #[.int .u32 (crcOf t s.data.toList : Nat), .int .i64 0]) ∧ w = w' := by
  unfold maxLen at hs
  have HR := Lib.hid hR
  clear hR
  go_enter Tryz.func66, Tryz.ntmps66
  go_wp2
  go_loop [6, 7] (fun c i => ∃ k : Nat, k ≤ s.size ∧ i = .int .i64 k ∧ c = .int .u32 (Crc.sum t (s.data.toList.take k) 4294967295 : Nat)) (fun _ i => s.size - (intOf i).toNat)
  case atStart => exact ⟨0, by omega, rfl, rfl⟩
  case round =>
    obtain ⟨k, hk, rfl, rfl⟩ := hrel
    have hlt32 := Crc.sum_lt ht (s.data.toList.take k) (c := 4294967295) (by decide)
    by_cases hlt : k < s.size
    · have hsn := Lib.hid (sum_snoc t s k hlt 4294967295)
      generalize Crc.sum t (s.data.toList.take k) 4294967295 = c at *
      have hb := UInt8.toNat_lt s[k]
      have hx := u32_xor_b c s[k].toNat hlt32 hb
      obtain ⟨y, hy⟩ : ∃ y, y = c ^^^ s[k].toNat := ⟨_, rfl⟩
      rw [← hy] at hx
      have HX := Lib.hid hy
      have hyl : y < 4294967296 := by rw [hy]; exact Crc.xor32 hlt32 (by omega)
      clear hy
      obtain ⟨ad, hA, -, hct⟩ := HR.out (y % 256) (Nat.mod_lt _ (by decide))
      have h2 := u32_step c (t (y % 256)) hlt32 (ht _ (Nat.mod_lt _ (by decide)))
      have hm : y % 256 < 256 := Nat.mod_lt _ (by decide)
      subst hA
      go_wp2
      go_round
      case rel => 
        refine ⟨k + 1, by omega, by go_num, int_val ?_⟩
        rw [hsn.out]
        unfold Crc.two
        rw [← HX.out]
      case measure => simp [intOf]; omega
    · obtain rfl : k = s.size := by omega
      rw [List.take_of_length_le (by simp)] at hlt32 ⊢
      go_wp2
      go_ret2
      exact ⟨ret_two (int_val (u32_xor_m _ hlt32)) rfl, rfl⟩

theorem step_bits (c : Nat) (h : c < 4294967296) : bits .xor .u32 ((c : Int) / 2) 3988292384 = ((c / 2 ^^^ 3988292384 : Nat) : Int) := by
  rw [show (c : Int) / 2 = ((c / 2 : Nat) : Int) from by omega]
  exact u32_xor_nat _ 3988292384 (by omega) (by decide)
set_option maxRecDepth 100000 in
set_option maxHeartbeats 400000 in
theorem step_any (c : Nat) (hc : c < 4294967296) (w : World) :
    Calls Tryz.prog 24 #[.int .u32 c] w fun e w' => e = .returned (.int .u32 (Crc.step c : Nat)) ∧ w = w' := by
  have hb := step_bits c hc
  by_cases h : c % 2 = 1
  · have h0 : ((c : Int) % 2 == 1) = true := by rw [beq_iff_eq]; omega
    have HH := Lib.hid h
    clear h
    go_enter Tryz.func24, Tryz.ntmps24
    go_wp2
    go_ret
    exact ⟨ret_int (by unfold Crc.step; rw [if_pos HH.out]), rfl⟩
  · have h0 : ((c : Int) % 2 == 1) = false := by rw [beq_eq_false_iff_ne]; omega
    have HH := Lib.hid h
    clear h
    go_enter Tryz.func24, Tryz.ntmps24
    go_wp2
    go_ret
    exact ⟨ret_int (by unfold Crc.step; rw [if_neg HH.out]; omega), rfl⟩
theorem plain_snoc (s : ByteArray) (k : Nat) (h : k < s.size) (c : Nat) : Crc.plain (s.data.toList.take (k + 1)) c = Crc.one (Crc.plain (s.data.toList.take k) c) s[k].toNat := by
  rw [take_snoc s k h, Crc.plain_append]; rfl
def plainOf (l : List UInt8) : Nat := Crc.plain l 4294967295 ^^^ 4294967295
def bytesOf (c : Nat) : List UInt8 := [UInt8.ofNat (c / 16777216), UInt8.ofNat (c / 65536), UInt8.ofNat (c / 256), UInt8.ofNat c]
def bytesV (c : Nat) : List Value := [.int .u8 ((c : Int) / 16777216), .int .u8 ((c : Int) / 65536 % 256), .int .u8 ((c : Int) / 256 % 256), .int .u8 ((c : Int) % 256)]
theorem bytesV_eq (c : Nat) (hc : c < 4294967296) : bytesV c = (bytesOf c).map b8 := by
  unfold bytesV bytesOf b8
  simp only [List.map_cons, List.map_nil, UInt8.toNat_ofNat']
  rw [Nat.mod_eq_of_lt (show c / 16777216 < 2 ^ 8 by omega)]
  simp only [Int.natCast_ediv, Int.natCast_emod]
  rfl
theorem bytesV_one (c : Nat) : ∀ u ∈ bytesV c, u.oneCell' = true := by
  intro u hu; simp [bytesV] at hu; rcases hu with rfl | rfl | rfl | rfl <;> rfl
theorem cells_new (W : World) (xs : List Value) (e : TypeId) (j : Nat) (u : Value) (h : xs[j]? = some u) : (W.alloc (.cells xs.toArray e)).cell? ((⟨W.heap.size, 0, none⟩ : Addr).add j) = some u := by
  rw [add_zero']
  have := World.cell?_alloc_mark W xs.toArray e (0, 0) j
  rw [this]; simpa using h
theorem conv4 (W : World) (c : Nat) (hc : c < 4294967296) :
    (convert 98 9 (.slice (some ⟨W.heap.size, 0, none⟩) 4 4)).run Tryz.prog (W.alloc (.cells #[.int .u8 ((c : Int) / 16777216), .int .u8 ((c : Int) / 65536 % 256), .int .u8 ((c : Int) / 256 % 256), .int .u8 ((c : Int) % 256)] 5)) =
      .ok (.string ⟨(bytesOf c).toArray⟩) (W.alloc (.cells #[.int .u8 ((c : Int) / 16777216), .int .u8 ((c : Int) / 65536 % 256), .int .u8 ((c : Int) / 256 % 256), .int .u8 ((c : Int) % 256)] 5)) := by
  refine run_convert_bytes_back _ 98 9 5 _ 4 (bytesOf c) Tryz.underlying98 Tryz.underlying5 Tryz.underlying9 fun j hj => ?_
  refine cells_new W (bytesV c) _ j _ ?_
  rw [bytesV_eq c hc, List.getElem?_map, List.getElem?_eq_getElem hj]
  rfl
set_option maxRecDepth 100000 in
set_option maxHeartbeats 400000 in
theorem bytes_any (c : Nat) (hc : c < 4294967296) (w : World) :
    Calls Tryz.prog 37 #[.int .u32 c] w fun e w' => e = .returned (.string ⟨(bytesOf c).toArray⟩) ∧ Below w.heap.size w w' := by
  have hcv := conv4 w c hc
  generalize hB : (bytesOf c).toArray = B at *
  clear hB
  go_enter Tryz.func37, Tryz.ntmps37
  go_wp2
  go_ret
  exact ⟨rfl, (Below.refl _ _).alloc (Nat.le_refl _) _⟩
theorem info_u8 : (Tryz.prog.info? 5).map (fun i => (i.zero, i.size, i.bytes)) = some (some (.int .u8 0), 1, 1) := by kernel_rfl
set_option maxRecDepth 100000 in
set_option maxHeartbeats 400000 in
theorem refbytes_any (c : Nat) (hc : c < 4294967296) (w : World) :
    Calls Tryz.prog 68 #[.int .u32 c] w fun e w' => e = .returned (.string ⟨(bytesOf c).toArray⟩) ∧ Below w.heap.size w w' := by
  obtain ⟨i0, hi, hz0, hz1, hz2⟩ := info_parts info_u8
  have HE := Lib.hid (bytesV_eq c hc)
  go_enter Tryz.func68, Tryz.ntmps68
  go_wp2_with (at_builtin; refine wpList_append_own _ rfl _ _ 98 rfl w.heap.size 5 i0 (.int .u8 0) 1 1 Tryz.underlying98 hi hz0 hz1 hz2 rfl (by decide) (.slice none 0 0) 0 [] rfl (World.ownsRow_nil _ _ _ _) ⟨w.heap.size, 0, none⟩ 4 4 (bytesV c) rfl rfl (fun j u hu => cells_new _ _ _ j u hu) (bytesV_one c) (by unfold maxLen; omega) (by omega) (by simp) ?_; intro v' w1 hown' hgrow _; have hcv := conv_own (P := Tryz.prog) w1 98 9 5 w.heap.size v' (0 + 4) (bytesOf c) Tryz.underlying98 Tryz.underlying5 Tryz.underlying9 (by rw [← HE.out]; simpa using hown'))
  have hB : Below w.heap.size w w1 := ((Below.refl _ _).alloc (Nat.le_refl _) _).grown hgrow (by simp) (fun k h => by cases h)
  go_ret
  exact ⟨rfl, hB⟩
def tabL (k : Nat) : List Value := (List.range k).map fun i => .int .u32 (Crc.tab i : Nat)
theorem tabL_succ (k : Nat) : tabL (k + 1) = tabL k ++ [.int .u32 (Crc.tab k : Nat)] := by unfold tabL; rw [List.range_succ]; simp
theorem one_cell (W : World) (u : Value) (e : TypeId) (j : Nat) (v : Value) (h : [u][j]? = some v) : (W.alloc (.cells #[u] e)).cell? ((⟨W.heap.size, 0, none⟩ : Addr).add j) = some v := cells_new W [u] e j v h
set_option maxRecDepth 100000 in
set_option maxHeartbeats 400000 in
theorem reftable_any (w : World) :
    Calls Tryz.prog 8 #[] w fun e w' => ∃ v, e = .returned v ∧ w'.ownsRow w.heap.size 56 1 v 256 (tabL 256) ∧ Below w.heap.size w w' := by
  obtain ⟨i0, hi, hz0, hz1, hz2⟩ := info_parts info_u32
  go_enter Tryz.func8, Tryz.ntmps8
  go_wp2
  go_loopw [1, 2] (fun v i wr => ∃ k : Nat, k ≤ 256 ∧ i = .int .i64 k ∧ wr.ownsRow w.heap.size 56 1 v k (tabL k) ∧ Below w.heap.size w wr) (fun _ i _ => 256 - (intOf i).toNat)
  case atStart => exact ⟨0, by omega, rfl, World.ownsRow_nil _ _ _ _, Below.refl _ _⟩
  case round =>
    obtain ⟨k, hk, rfl, hO, hB⟩ := hrel
    by_cases hlt : k < 256
    · have hd : decide ((k : Int) < 256) = true := by simp; omega
      go_wp2
      go_loop [3, 4] (fun c j => ∃ m : Nat, m ≤ 8 ∧ j = .int .i64 m ∧ c = .int .u32 (Crc.steps m k)) (fun _ j => 8 - (intOf j).toNat)
      case atStart => exact ⟨0, by omega, rfl, rfl⟩
      case round =>
        obtain ⟨m, hm, rfl, rfl⟩ := hrel
        have hsl := Crc.steps_lt (c := k) (by omega) m
        by_cases hlm : m < 8
        · go_wp2_with (go_at_call 24; refine (step_any _ hsl _).mono ?_; rintro e w' ⟨rfl, rfl⟩)
          go_round
          case rel => exact ⟨m + 1, by omega, by go_num, rfl⟩
          case measure => simp [intOf]; omega
        · obtain rfl : m = 8 := by omega
          clear hm hlm
          have HO := hO
          have hsz := hB.size
          go_wp2_with (at_builtin; refine wpList_append_own _ rfl _ _ 27 rfl w.heap.size 56 i0 (.int .u32 0) 1 4 Tryz.underlying27 hi hz0 hz1 hz2 rfl (by decide) _ _ _ rfl (hO.alloc _) ⟨wr.heap.size, 0, none⟩ 1 1 [.int .u32 (Crc.steps 8 k : Nat)] rfl rfl (one_cell _ _ _) (fun u hu => by simp at hu; subst hu; rfl) (by unfold maxLen; omega) (by omega) (by simp; omega) ?_; intro v' w1 hown' hgrow _)
          go_roundw
          case rel =>
            refine ⟨k + 1, by omega, by go_num, by rw [tabL_succ]; exact hown', (hB.alloc hB.size _).grown hgrow (by simp; omega) (fun j h => (hO.lt j h).1)⟩
          case measure => simp [intOf]; omega
    · obtain rfl : k = 256 := by omega
      go_wp2
      go_ret
      exact ⟨_, rfl, hO, hB⟩

def xorB (a b : ByteArray) (k : Nat) : List UInt8 := (List.zipWith (· ^^^ ·) a.data.toList b.data.toList).take k
theorem xorB_succ (a b : ByteArray) (k : Nat) (ha : k < a.size) (hb : k < b.size) : xorB a b (k + 1) = xorB a b k ++ [a[k] ^^^ b[k]] := by
  unfold xorB
  rw [List.take_succ_eq_append_getElem (by simpa using Nat.lt_min.2 ⟨ha, hb⟩)]
  simp; constructor <;> rfl
theorem u8_xor_b (a b : UInt8) : bits .xor .u8 (a.toNat : Int) (b.toNat : Int) = ((a ^^^ b).toNat : Int) := by
  rw [u8_xor_nat _ _ (UInt8.toNat_lt a) (UInt8.toNat_lt b), UInt8.toNat_xor]
theorem tab_row {w w' : World} (h : w'.rowIs w.heap.size 56 256 (tabF 256)) : Row1 w' w'.heap.size (some ⟨w.heap.size, 0, none⟩) 256 (fun i => .int .u32 (Crc.tab i : Nat)) :=
  (Row1.of_row h).congr fun i hi => by simp only [tabF, tabN]; rw [if_pos hi]
theorem tabok : ∀ i, i < 256 → Crc.tab i < 4294967296 := fun _ h => Crc.tab_lt h
theorem crcOf_lt {t : Nat → Nat} (ht : ∀ i, i < 256 → t i < 4294967296) (l : List UInt8) : crcOf t l < 4294967296 := Crc.xor32 (Crc.sum_lt ht l (by decide)) (by decide)
theorem crc_nine : crcOf Crc.tab [49, 50, 51, 52, 53, 54, 55, 56, 57] = 3421780262 := by decide +kernel
theorem bytes_nine : (bytesOf 3421780262).toArray = #[203, 244, 57, 38] := by decide +kernel
end Go.Proofs.YtalgbcgiiphoaaaGreatDoor
end
