/- The plain law of sums of bytes: a sum made with the table is the sum bit by bit; a step is one to one, and goes through exclusive-or. No condition. -/
import Init.Data.Nat.Bitwise
import Init.Data.UInt.Lemmas
namespace Go.Proofs.Ytjeiklgaiefeaaa.Crc

def step (c : Nat) : Nat := if c % 2 = 1 then (c / 2) ^^^ 3988292384 else c / 2
def steps : Nat → Nat → Nat
  | 0, c => c
  | k + 1, c => step (steps k c)
def tab (i : Nat) : Nat := steps 8 i
/-- one byte, bit by bit -/
def one (c b : Nat) : Nat := steps 8 (c ^^^ b)
def plain (l : List UInt8) (c : Nat) : Nat := l.foldl (fun c b => one c b.toNat) c
/-- one byte, with a table -/
def two (t : Nat → Nat) (c b : Nat) : Nat := (c / 256) ^^^ t ((c ^^^ b) % 256)
def sum (t : Nat → Nat) (l : List UInt8) (c : Nat) : Nat := l.foldl (fun c b => two t c b.toNat) c

theorem xor_half (a b : Nat) : (a ^^^ b) / 2 = (a / 2) ^^^ (b / 2) := by
  apply Nat.eq_of_testBit_eq
  intro i
  simp [Nat.testBit_div_two]
theorem xor_odd (a b : Nat) : (a ^^^ b) % 2 = (a % 2 + b % 2) % 2 := by
  have h := Nat.testBit_xor a b 0
  simp only [Nat.testBit_zero] at h
  have h1 := Nat.mod_two_eq_zero_or_one a
  have h2 := Nat.mod_two_eq_zero_or_one b
  have h3 := Nat.mod_two_eq_zero_or_one (a ^^^ b)
  rcases h1 with h1 | h1 <;> rcases h2 with h2 | h2 <;> rcases h3 with h3 | h3 <;> simp_all
theorem xor_lt {a b n : Nat} (ha : a < 2 ^ n) (hb : b < 2 ^ n) : a ^^^ b < 2 ^ n := Nat.xor_lt_two_pow ha hb
theorem xor32 {a b : Nat} (ha : a < 4294967296) (hb : b < 4294967296) : a ^^^ b < 4294967296 := xor_lt (n := 32) ha hb

theorem step_lt {c : Nat} (h : c < 4294967296) : step c < 4294967296 := by
  unfold step
  split
  · exact xor32 (by omega) (by omega)
  · omega
theorem steps_lt {c : Nat} (h : c < 4294967296) : ∀ k, steps k c < 4294967296
  | 0 => h
  | k + 1 => step_lt (steps_lt h k)
theorem tab_lt {i : Nat} (h : i < 256) : tab i < 4294967296 := steps_lt (by omega) 8
theorem one_lt {c b : Nat} (hc : c < 4294967296) (hb : b < 256) : one c b < 4294967296 := steps_lt (xor32 hc (by omega)) 8
theorem two_lt {t : Nat → Nat} (ht : ∀ i, i < 256 → t i < 4294967296) {c b : Nat} (hc : c < 4294967296) : two t c b < 4294967296 :=
  xor32 (by omega) (ht _ (Nat.mod_lt _ (by decide)))
theorem plain_lt (l : List UInt8) : ∀ {c : Nat}, c < 4294967296 → plain l c < 4294967296 := by
  induction l with
  | nil => intro c h; exact h
  | cons b l ih => intro c h; exact ih (one_lt h (UInt8.toNat_lt b))
theorem sum_lt {t : Nat → Nat} (ht : ∀ i, i < 256 → t i < 4294967296) (l : List UInt8) : ∀ {c : Nat}, c < 4294967296 → sum t l c < 4294967296 := by
  induction l with
  | nil => intro c h; exact h
  | cons b l ih => intro c h; exact ih (two_lt ht h)

theorem step_xor (a b : Nat) : step (a ^^^ b) = step a ^^^ step b := by
  unfold step
  rw [xor_half, xor_odd]
  have ha := Nat.mod_two_eq_zero_or_one a
  have hb := Nat.mod_two_eq_zero_or_one b
  rcases ha with ha | ha <;> rcases hb with hb | hb <;> simp only [ha, hb] <;> simp
  · rw [Nat.xor_assoc]
  · rw [Nat.xor_assoc, Nat.xor_assoc, Nat.xor_comm (b / 2)]
  · rw [show (a / 2 ^^^ 3988292384) ^^^ (b / 2 ^^^ 3988292384) = (a / 2 ^^^ b / 2) ^^^ (3988292384 ^^^ 3988292384) from by ac_rfl]
    simp
theorem steps_xor (a b : Nat) : ∀ k, steps k (a ^^^ b) = steps k a ^^^ steps k b
  | 0 => rfl
  | k + 1 => by simp only [steps]; rw [steps_xor a b k, step_xor]
theorem step_even (x : Nat) : step (2 * x) = x := by unfold step; rw [if_neg (by omega)]; omega
theorem steps_succ' (k c : Nat) : steps (k + 1) c = steps k (step c) := by
  induction k generalizing c with
  | zero => rfl
  | succ k ih => show step (steps (k + 1) c) = step (steps k (step c)); rw [ih]
theorem steps_pow (x : Nat) : ∀ k, steps k (2 ^ k * x) = x
  | 0 => by simp [steps]
  | k + 1 => by
    rw [steps_succ', show 2 ^ (k + 1) * x = 2 * (2 ^ k * x) from by rw [Nat.pow_succ]; ac_rfl, step_even]
    exact steps_pow x k
theorem split8 (c : Nat) : (256 * (c / 256)) ^^^ (c % 256) = c := by
  have h1 : 256 * (c / 256) ^^^ c % 256 = 256 * (c / 256) + c % 256 := by
    apply Nat.eq_of_testBit_eq
    intro i
    rw [show (256 : Nat) = 2 ^ 8 from rfl, Nat.testBit_two_pow_mul_add _ (Nat.mod_lt _ (by decide)), Nat.testBit_xor, Nat.testBit_two_pow_mul, Nat.testBit_mod_two_pow]
    by_cases hi : i < 8
    · simp [hi, show ¬ 8 ≤ i by omega]
    · simp [hi, show 8 ≤ i by omega]
  rw [h1]
  exact Nat.div_add_mod c 256
theorem steps8 (c : Nat) : steps 8 c = (c / 256) ^^^ tab (c % 256) := by
  rw [show steps 8 c = steps 8 ((256 * (c / 256)) ^^^ (c % 256)) from by rw [split8], steps_xor]
  rw [show 256 * (c / 256) = 2 ^ 8 * (c / 256) from rfl, steps_pow]
  rfl
theorem xor_div256 (c b : Nat) (hb : b < 256) : (c ^^^ b) / 256 = c / 256 := by
  apply Nat.eq_of_testBit_eq
  intro i
  rw [show (256 : Nat) = 2 ^ 8 from rfl, Nat.testBit_div_two_pow, Nat.testBit_div_two_pow, Nat.testBit_xor, Nat.testBit_lt_two_pow (x := b) (Nat.lt_of_lt_of_le hb (by
    rw [show (256 : Nat) = 2 ^ 8 from rfl]; exact Nat.pow_le_pow_right (by decide) (by omega)))]
  simp
theorem one_two (c b : Nat) (hb : b < 256) : one c b = two tab c b := by
  unfold one two
  rw [steps8, xor_div256 c b hb]
theorem sum_plain (l : List UInt8) : ∀ c, sum tab l c = plain l c := by
  induction l with
  | nil => intro c; rfl
  | cons b l ih =>
    intro c
    show sum tab l (two tab c b.toNat) = plain l (one c b.toNat)
    rw [one_two _ _ (UInt8.toNat_lt b), ih]

theorem xor_cancel {a b c : Nat} (h : a ^^^ c = b ^^^ c) : a = b := by
  have : (a ^^^ c) ^^^ c = (b ^^^ c) ^^^ c := by rw [h]
  simpa [Nat.xor_assoc] using this
theorem xor_cancel' {a b c : Nat} (h : c ^^^ a = c ^^^ b) : a = b := xor_cancel (c := c) (by rw [Nat.xor_comm a, Nat.xor_comm b]; exact h)
theorem step_inj {a b : Nat} (ha : a < 4294967296) (hb : b < 4294967296) (h : step a = step b) : a = b := by
  unfold step at h
  have key : ∀ x y : Nat, x < 2147483648 → y < 2147483648 → x ^^^ 3988292384 ≠ y := by
    intro x y hx hy he
    have := congrArg (fun n => n.testBit 31) he
    simp only [Nat.testBit_xor] at this
    rw [Nat.testBit_lt_two_pow (show x < 2 ^ 31 from hx), Nat.testBit_lt_two_pow (show y < 2 ^ 31 from hy)] at this
    revert this
    decide
  by_cases h1 : a % 2 = 1 <;> by_cases h2 : b % 2 = 1
  · rw [if_pos h1, if_pos h2] at h
    have := xor_cancel h
    omega
  · rw [if_pos h1, if_neg h2] at h
    exact absurd h (key _ _ (by omega) (by omega))
  · rw [if_neg h1, if_pos h2] at h
    exact absurd h.symm (key _ _ (by omega) (by omega))
  · rw [if_neg h1, if_neg h2] at h
    omega
theorem steps_inj {a b : Nat} (ha : a < 4294967296) (hb : b < 4294967296) : ∀ k, steps k a = steps k b → a = b
  | 0, h => h
  | k + 1, h => steps_inj ha hb k (step_inj (steps_lt ha k) (steps_lt hb k) h)
theorem one_inj {a b x : Nat} (ha : a < 4294967296) (hb : b < 4294967296) (hx : x < 256) (h : one a x = one b x) : a = b :=
  xor_cancel (steps_inj (xor32 ha (by omega)) (xor32 hb (by omega)) 8 h)
theorem one_inj' {a x y : Nat} (ha : a < 4294967296) (hx : x < 256) (hy : y < 256) (h : one a x = one a y) : x = y :=
  xor_cancel' (steps_inj (xor32 ha (by omega)) (xor32 ha (by omega)) 8 h)
theorem plain_inj (l : List UInt8) : ∀ {a b : Nat}, a < 4294967296 → b < 4294967296 → plain l a = plain l b → a = b := by
  induction l with
  | nil => intro a b _ _ h; exact h
  | cons x l ih =>
    intro a b ha hb h
    exact one_inj ha hb (UInt8.toNat_lt x) (ih (one_lt ha (UInt8.toNat_lt x)) (one_lt hb (UInt8.toNat_lt x)) h)
theorem plain_append (l m : List UInt8) (c : Nat) : plain (l ++ m) c = plain m (plain l c) := by unfold plain; rw [List.foldl_append]
theorem sum_append (t : Nat → Nat) (l m : List UInt8) (c : Nat) : sum t (l ++ m) c = sum t m (sum t l c) := by unfold sum; rw [List.foldl_append]
/-- one byte is another one: another sum -/
theorem plain_ne (l m : List UInt8) (x y : UInt8) (hxy : x ≠ y) {c : Nat} (hc : c < 4294967296) : plain (l ++ [x] ++ m) c ≠ plain (l ++ [y] ++ m) c := by
  intro h
  rw [plain_append, plain_append, plain_append, plain_append] at h
  have h1 := plain_inj m (plain_lt [x] (plain_lt l hc)) (plain_lt [y] (plain_lt l hc)) h
  exact hxy (UInt8.toNat_inj.1 (one_inj' (plain_lt l hc) (UInt8.toNat_lt x) (UInt8.toNat_lt y) h1))
theorem one_xor (a b c x y z : Nat) : one a x ^^^ one b y ^^^ one c z = one (a ^^^ b ^^^ c) (x ^^^ y ^^^ z) := by
  unfold one
  rw [← steps_xor, ← steps_xor]
  congr 1
  ac_rfl
theorem plain_three : ∀ (l m n : List UInt8) (a b c : Nat), l.length = m.length → m.length = n.length →
    plain l a ^^^ plain m b ^^^ plain n c = plain (List.zipWith (· ^^^ ·) (List.zipWith (· ^^^ ·) l m) n) (a ^^^ b ^^^ c)
  | [], [], [], a, b, c, _, _ => rfl
  | x :: l, y :: m, z :: n, a, b, c, h1, h2 => by
    show plain l (one a x.toNat) ^^^ plain m (one b y.toNat) ^^^ plain n (one c z.toNat) = plain _ (one (a ^^^ b ^^^ c) (x ^^^ y ^^^ z).toNat)
    rw [plain_three l m n _ _ _ (by simpa using h1) (by simpa using h2), one_xor]
    simp
end Go.Proofs.Ytjeiklgaiefeaaa.Crc
