/- Sums of texts: one byte changed changes the sum; numbers of two and four bytes, there and back. Nothing of the program stands here. -/
import Derived.Test.YtkiokdphjfkocaaCrcLaw
set_option linter.unusedVariables false
namespace Go.Proofs.Ytkiokdphjfkocaa
theorem un2 (a b : UInt8) : un [a, b] = a.toNat * 256 + b.toNat := by simp [un]
theorem be2 (n : Nat) : be 2 n = [UInt8.ofNat (n / 256), UInt8.ofNat n] := by simp [be]
theorem be_un2 (a b : UInt8) : be 2 (un [a, b]) = [a, b] := by
  rw [un2, be2]
  have ha := a.toNat_lt
  have hb := b.toNat_lt
  congr 1
  · apply UInt8.toNat_inj.1; rw [UInt8.toNat_ofNat']; omega
  · congr 1; apply UInt8.toNat_inj.1; rw [UInt8.toNat_ofNat']; omega
theorem un_be2 {n : Nat} (h : n < 65536) : un (be 2 n) = n := by
  rw [be2, un2, UInt8.toNat_ofNat', UInt8.toNat_ofNat']; omega
/-! ### One byte changed -/
theorem crc1_zero {x : Nat} (hx : x < 4294967296) (h : crc1 x = 0) : x = 0 := by
  unfold crc1 at h
  rw [Nat.and_one_is_mod, Nat.shiftRight_eq_div_pow] at h
  have h' : x / 2 ^ 1 = x % 2 * 2197175160 := by
    have := congrArg (· ^^^ (x % 2 * 2197175160)) h
    simpa [Nat.xor_assoc] using this
  omega
theorem crcN_zero (n : Nat) : ∀ {x : Nat}, x < 4294967296 → crcN n x = 0 → x = 0 := by
  induction n with
  | zero => intro x _ h; exact h
  | succ n ih => intro x hx h; exact crc1_zero hx (ih (crc1_lt hx) h)
theorem xor_zero {x y : Nat} (h : x ^^^ y = 0) : x = y := by
  have := congrArg (· ^^^ y) h
  simpa [Nat.xor_assoc] using this
theorem crcN_inj {n x y : Nat} (hx : x < 4294967296) (hy : y < 4294967296) (h : crcN n x = crcN n y) : x = y := by
  refine xor_zero (crcN_zero n (Nat.xor_lt_two_pow (n := 32) hx hy) ?_)
  rw [crcN_xor, h, Nat.xor_self]
theorem byte_xor_lt {c : Nat} (hc : c < 4294967296) (b : UInt8) : c ^^^ b.toNat < 4294967296 :=
  Nat.xor_lt_two_pow (n := 32) hc (by have := b.toNat_lt; omega)
theorem crcB_inj {c d : Nat} (hc : c < 4294967296) (hd : d < 4294967296) (b : UInt8) (h : crcB c b = crcB d b) : c = d := by
  have h := crcN_inj (byte_xor_lt hc b) (byte_xor_lt hd b) h
  have := congrArg (· ^^^ b.toNat) h
  simpa [Nat.xor_assoc] using this
theorem crcB_inj2 {c : Nat} (hc : c < 4294967296) (a b : UInt8) (h : crcB c a = crcB c b) : a = b := by
  have h := crcN_inj (byte_xor_lt hc a) (byte_xor_lt hc b) h
  have := congrArg (c ^^^ ·) h
  simp only [← Nat.xor_assoc, Nat.xor_self, Nat.zero_xor] at this
  exact UInt8.toNat_inj.1 this
theorem crcL_inj : ∀ (l : List UInt8) {c d : Nat}, c < 4294967296 → d < 4294967296 → crcL c l = crcL d l → c = d := by
  intro l
  induction l with
  | nil => intro c d _ _ h; exact h
  | cons a l ih => intro c d hc hd h; exact crcB_inj hc hd a (ih (crcB_lt hc a) (crcB_lt hd a) h)
theorem crcL_set (l : List UInt8) (i : Nat) (b : UInt8) (hi : i < l.length) {c : Nat} (hc : c < 4294967296) (h : crcL c l = crcL c (l.set i b)) : l[i] = b := by
  have e1 : l = l.take i ++ l[i] :: l.drop (i + 1) := by rw [← List.drop_eq_getElem_cons hi, List.take_append_drop]
  have e2 : l.set i b = l.take i ++ b :: l.drop (i + 1) := by rw [List.set_eq_take_append_cons_drop, if_pos hi]
  rw [e2] at h
  conv at h => lhs; rw [e1]
  rw [crcL_append, crcL_append] at h
  have hc' := crcL_lt (l.take i) hc
  exact crcB_inj2 hc' _ _ (crcL_inj (l.drop (i + 1)) (crcB_lt hc' _) (crcB_lt hc' _) h)
theorem be4_inj {a b : Nat} (ha : a < 4294967296) (hb : b < 4294967296) (h : be 4 a = be 4 b) : a = b := by
  simp only [be, List.cons.injEq, and_true] at h
  obtain ⟨h1, h2, h3, h4⟩ := h
  have g : ∀ {x y : Nat}, UInt8.ofNat x = UInt8.ofNat y → x % 256 = y % 256 := fun {x y} h => by
    have := congrArg UInt8.toNat h; rwa [UInt8.toNat_ofNat', UInt8.toNat_ofNat'] at this
  have g1 := g h1; have g2 := g h2; have g3 := g h3; have g4 := g h4
  omega
theorem crcOf_set {l : List UInt8} {i : Nat} {b : UInt8} (hi : i < l.length) (h : crcOf l = crcOf (l.set i b)) : l[i] = b := by
  refine crcL_set l i b hi (c := 4294967295) (by omega) ?_
  unfold crcOf crcMore at h
  have h1 := crcL_lt l (c := 4294967295 - 0) (by omega)
  have h2 := crcL_lt (l.set i b) (c := 4294967295 - 0) (by omega)
  rw [Nat.sub_zero] at h h1 h2
  omega
theorem drop_set_lt {α : Type} (l : List α) (i n : Nat) (b : α) (h : i < n) : (l.set i b).drop n = l.drop n := by
  rw [List.drop_set, if_pos h]
end Go.Proofs.Ytkiokdphjfkocaa
