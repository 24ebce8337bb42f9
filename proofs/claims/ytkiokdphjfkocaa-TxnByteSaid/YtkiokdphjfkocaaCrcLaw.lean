/- A sum of texts: the plain words, and that the way by a table is the way by bits. Nothing of the program stands here. -/
import Derived.Test.YtkiokdphjfkocaaMem
import Derived.Test.YtkiokdphjfkocaaPackLaw
set_option linter.unusedVariables false
namespace Go.Proofs.Ytkiokdphjfkocaa
/-- A bit further. -/
def crc1 (c : Nat) : Nat := (c >>> 1) ^^^ ((c &&& 1) * 2197175160)
def crcN : Nat → Nat → Nat
  | 0, c => c
  | n + 1, c => crcN n (crc1 c)
/-- A byte further. -/
def crcB (c : Nat) (b : UInt8) : Nat := crcN 8 (c ^^^ b.toNat)
def crcL (c : Nat) (l : List UInt8) : Nat := l.foldl crcB c
def crcMore (s : Nat) (l : List UInt8) : Nat := 4294967295 - crcL (4294967295 - s) l
def crcOf (l : List UInt8) : Nat := crcMore 0 l
theorem crc1_xor (x y : Nat) : crc1 (x ^^^ y) = crc1 x ^^^ crc1 y := by
  unfold crc1
  rw [Nat.shiftRight_xor_distrib, Nat.and_xor_distrib_right]
  have h : ((x &&& 1) ^^^ (y &&& 1)) * 2197175160 = ((x &&& 1) * 2197175160) ^^^ ((y &&& 1) * 2197175160) := by
    rw [Nat.and_one_is_mod, Nat.and_one_is_mod]
    rcases Nat.mod_two_eq_zero_or_one x with h | h <;> rcases Nat.mod_two_eq_zero_or_one y with h' | h' <;> rw [h, h'] <;> rfl
  rw [h]
  ac_rfl
theorem crcN_xor (n : Nat) : ∀ x y, crcN n (x ^^^ y) = crcN n x ^^^ crcN n y := by
  induction n with
  | zero => intro x y; rfl
  | succ n ih => intro x y; rw [crcN, crcN, crcN, crc1_xor, ih]
theorem crc1_even (k : Nat) : crc1 (2 * k) = k := by
  unfold crc1
  rw [Nat.and_one_is_mod, Nat.shiftRight_eq_div_pow]
  simp
theorem crcN_high (n : Nat) : ∀ k, crcN n (2 ^ n * k) = k := by
  induction n with
  | zero => intro k; simp [crcN]
  | succ n ih => intro k; rw [crcN, Nat.pow_succ, show 2 ^ n * 2 * k = 2 * (2 ^ n * k) by rw [Nat.mul_comm (2 ^ n) 2, Nat.mul_assoc], crc1_even, ih]
theorem split_xor (c : Nat) : c = (c % 256) ^^^ (2 ^ 8 * (c >>> 8)) := by
  apply Nat.eq_of_testBit_eq
  intro i
  rw [Nat.testBit_xor, Nat.testBit_two_pow_mul, show (256 : Nat) = 2 ^ 8 by rfl, Nat.testBit_mod_two_pow]
  by_cases h : i < 8
  · have h8 : ¬ 8 ≤ i := by omega
    simp [h, h8]
  · have h8 : 8 ≤ i := by omega
    simp only [h, decide_false, Bool.false_and, h8, decide_true, Bool.true_and, Bool.false_xor]
    rw [Nat.testBit_shiftRight]
    congr 1; omega
/-- By a table of bytes. -/
theorem crcB_table (c : Nat) (b : UInt8) : crcB c b = crcN 8 ((c % 256) ^^^ b.toNat) ^^^ (c >>> 8) := by
  unfold crcB
  have e : c ^^^ b.toNat = ((c % 256) ^^^ b.toNat) ^^^ (2 ^ 8 * (c >>> 8)) := by
    conv => lhs; rw [split_xor c]
    ac_rfl
  rw [e, crcN_xor, crcN_high]
theorem crc1_lt {c : Nat} (h : c < 4294967296) : crc1 c < 4294967296 := by
  unfold crc1
  rw [Nat.and_one_is_mod]
  have h1 : c >>> 1 < 2 ^ 32 := by rw [Nat.shiftRight_eq_div_pow]; omega
  have h2 : c % 2 * 2197175160 < 2 ^ 32 := by rcases Nat.mod_two_eq_zero_or_one c with h | h <;> rw [h] <;> decide
  exact Nat.xor_lt_two_pow h1 h2
theorem crcN_lt (n : Nat) : ∀ {c : Nat}, c < 4294967296 → crcN n c < 4294967296 := by
  induction n with
  | zero => intro c h; exact h
  | succ n ih => intro c h; exact ih (crc1_lt h)
theorem crcB_lt {c : Nat} (h : c < 4294967296) (b : UInt8) : crcB c b < 4294967296 := by
  refine crcN_lt 8 (Nat.xor_lt_two_pow (n := 32) h ?_)
  have := b.toNat_lt
  omega
theorem crcL_lt : ∀ (l : List UInt8) {c : Nat}, c < 4294967296 → crcL c l < 4294967296 := by
  intro l
  induction l with
  | nil => intro c h; exact h
  | cons a l ih => intro c h; exact ih (crcB_lt h a)
theorem crcL_snoc (c : Nat) (l : List UInt8) (b : UInt8) : crcL c (l ++ [b]) = crcB (crcL c l) b := by simp [crcL]
theorem crcL_append (c : Nat) (l m : List UInt8) : crcL c (l ++ m) = crcL (crcL c l) m := by simp [crcL]
theorem crcMore_lt (s : Nat) (l : List UInt8) : crcMore s l < 4294967296 := by unfold crcMore; omega
theorem crcMore_append {s : Nat} (h : s < 4294967296) (l m : List UInt8) : crcMore (crcMore s l) m = crcMore s (l ++ m) := by
  unfold crcMore
  rw [crcL_append]
  have := crcL_lt l (c := 4294967295 - s) (by omega)
  congr 2
  omega
end Go.Proofs.Ytkiokdphjfkocaa
