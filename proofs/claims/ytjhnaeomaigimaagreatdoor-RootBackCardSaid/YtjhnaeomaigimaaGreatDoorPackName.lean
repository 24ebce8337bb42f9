/- 'pack.ToName', and names there and back. -/
import Derived.Test.YtjhnaeomaigimaaGreatDoorPacks
import Derived.Lib.TrimByte
set_option linter.unusedVariables false
namespace Go.Proofs.YtjhnaeomaigimaaGreatDoor
open Go.RowKit Go.Shelf
attribute [local go_sem] bs_mk bs_append bs_extract bs_size bs_toList bs_get

theorem un_from (l : List UInt8) : ∀ c : Nat, l.foldl (fun n c => n * 256 + c.toNat) c = c * 256 ^ l.length + un l := by
  induction l with
  | nil => intro c; simp [un]
  | cons a l ih =>
    intro c
    have h : un (a :: l) = l.foldl (fun n c => n * 256 + c.toNat) (0 * 256 + a.toNat) := rfl
    rw [List.foldl_cons, ih, h, ih, List.length_cons, Nat.pow_succ', Nat.add_mul, Nat.mul_assoc, Nat.add_mul]
    omega
theorem un_cons (a : UInt8) (l : List UInt8) : un (a :: l) = a.toNat * 256 ^ l.length + un l := by
  have h : un (a :: l) = l.foldl (fun n c => n * 256 + c.toNat) (0 * 256 + a.toNat) := rfl
  rw [h, un_from, Nat.zero_mul, Nat.zero_add]
/-- A number written is read. -/
theorem un_be (k n : Nat) : un (be k n) = n % 256 ^ k := by
  induction k with
  | zero => simp [be, un, Nat.mod_one]
  | succ k ih =>
    rw [be, un_cons, be_length, ih, Nat.mod_pow_succ, UInt8.toNat_ofNat', Nat.mul_comm (256 ^ k), show (2 : Nat) ^ 8 = 256 from rfl]
    omega
theorem take_be (k n : Nat) (m : List UInt8) : (be k n ++ m).take k = be k n := by
  rw [List.take_append_of_le_length (by rw [be_length]; omega), List.take_of_length_le (by rw [be_length]; omega)]
theorem drop_be (k n : Nat) (m : List UInt8) : (be k n ++ m).drop k = m := by
  rw [List.drop_append_of_le_length (by rw [be_length]; omega), List.drop_of_length_le (by rw [be_length]; omega), List.nil_append]
def trim0 (l : List UInt8) : List UInt8 := Lib.trimRightB l 0
theorem dropWhile_zeros (n : Nat) (l : List UInt8) : (List.replicate n 0 ++ l).dropWhile (· == 0) = l.dropWhile (· == 0) := by
  induction n with
  | zero => rfl
  | succ n ih => rw [List.replicate_succ, List.cons_append, List.dropWhile_cons]; simp [ih]
theorem dropWhile_none {l : List UInt8} (h : ∀ x ∈ l, x ≠ 0) : l.dropWhile (· == 0) = l := by
  cases l with
  | nil => rfl
  | cons a l => rw [List.dropWhile_cons, if_neg (by simpa using h a (by simp))]
theorem trim0_pad {s : List UInt8} (h : ∀ x ∈ s, x ≠ 0) (n : Nat) : trim0 (s ++ List.replicate n 0) = s := by
  rw [trim0, Lib.trimRightB, List.reverse_append, List.reverse_replicate, dropWhile_zeros, dropWhile_none (fun x hx => h x (by simpa using hx)), List.reverse_reverse]
theorem takeWhile_zeros (l : List UInt8) : l.takeWhile (· == 0) = List.replicate (l.takeWhile (· == 0)).length 0 := by
  induction l with
  | nil => rfl
  | cons a l ih =>
    rw [List.takeWhile_cons]
    split
    · rename_i h
      have : a = 0 := by simpa using h
      subst this
      rw [List.length_cons, List.replicate_succ, ← ih]
    · rfl
theorem trim0_split (l : List UInt8) : ∃ n, l = trim0 l ++ List.replicate n 0 := by
  refine ⟨(l.reverse.takeWhile (· == 0)).length, ?_⟩
  have h := List.takeWhile_append_dropWhile (p := (· == (0 : UInt8))) (l := l.reverse)
  have h2 := congrArg List.reverse h
  rw [List.reverse_reverse, List.reverse_append] at h2
  rw [trim0, Lib.trimRightB]
  conv => lhs; rw [← h2]
  congr 1
  rw [takeWhile_zeros l.reverse, List.reverse_replicate, List.length_replicate]
theorem nameOk_nonzero {l : List UInt8} (h : nameOk l = true) : ∀ x ∈ l, x ≠ 0 := by
  intro x hx e
  simp only [nameOk, Bool.and_eq_true, List.all_eq_true] at h
  have := h.2 x hx
  subst e
  simp [okByte] at this
theorem nameOk_len {l : List UInt8} (h : nameOk l = true) : l.length ≤ 8 := by
  simp only [nameOk, Bool.and_eq_true, decide_eq_true_eq] at h
  exact h.1.2
def nameR (l : List UInt8) : List UInt8 × Int := if nameOk l = true then (l ++ List.replicate (8 - l.length) 0, 0) else ([], 19)
def toNameR (l : List UInt8) : List UInt8 × Int := if l.length ≠ 8 then ([], 11) else if nameOk (trim0 l) = true then (trim0 l, 0) else ([], 19)
/-- A name written is read. -/
theorem toName_name {l : List UInt8} (h : nameOk l = true) : toNameR (l ++ List.replicate (8 - l.length) 0) = (l, 0) := by
  have h1 := nameOk_len h
  have ht := trim0_pad (nameOk_nonzero h) (8 - l.length)
  rw [toNameR, if_neg (by simp; omega), ht, if_pos h]
/-- What is read as a name is written as it stood. -/
theorem name_toName {l : List UInt8} (h : (toNameR l).2 = 0) : nameOk (toNameR l).1 = true ∧ (toNameR l).1 ++ List.replicate (8 - (toNameR l).1.length) 0 = l := by
  unfold toNameR at h ⊢
  by_cases h1 : l.length ≠ 8
  · rw [if_pos h1] at h; simp at h
  rw [if_neg h1] at h ⊢
  by_cases h2 : nameOk (trim0 l) = true
  · rw [if_pos h2]
    refine ⟨h2, ?_⟩
    obtain ⟨n, hn⟩ := trim0_split l
    have hl : l.length = (trim0 l).length + n := by conv => lhs; rw [hn]; simp
    show trim0 l ++ List.replicate (8 - (trim0 l).length) 0 = l
    rw [show 8 - (trim0 l).length = n by omega, ← hn]
  · rw [if_neg h2] at h; simp at h
theorem name_any (l : List UInt8) (hm : l.length ≤ maxLen) (w : World) :
    Calls Tryz.prog 79 #[.string (bs l)] w fun e w' => e = .returned (.tuple #[.string (bs (nameR l).1), .int .i64 (nameR l).2]) ∧ Below w.heap.size w w' := by
  by_cases h : nameOk l = true
  · refine (name_ok l h w).mono ?_
    rintro e w' ⟨rfl, hb⟩
    exact ⟨by rw [nameR, if_pos h], hb⟩
  · refine (name_bad l hm (by simpa using h) w).mono ?_
    rintro e w' ⟨rfl, hb⟩
    exact ⟨by rw [nameR, if_neg h], hb⟩
theorem toName_any (l : List UInt8) (hm : l.length ≤ maxLen) (w : World) :
    Calls Tryz.prog 149 #[.string (bs l)] w fun e w' => e = .returned (.tuple #[.string (bs (toNameR l).1), .int .i64 (toNameR l).2]) ∧ Below w.heap.size w w' := by
  have hm' := hm
  unfold maxLen at hm'
  by_cases h1 : l.length = 8
  · have htr := fun W => Tryz.strings_TrimRight_one (bs l) 0 (by decide) W (by rw [bs_size]; exact hm')
    rw [bs_list] at htr
    have hlt : (trim0 l).length ≤ maxLen := by
      obtain ⟨n, hn⟩ := trim0_split l
      have : l.length = (trim0 l).length + n := by conv => lhs; rw [hn]; simp
      omega
    have hnm := fun W => named_any (trim0 l) hlt W
    have Hw := hid (show toNameR l = if nameOk (trim0 l) = true then (trim0 l, 0) else ([], 19) by rw [toNameR, if_neg (by omega)])
    rw [show (⟨(Lib.trimRightB l 0).toArray⟩ : ByteArray) = bs (trim0 l) from rfl] at htr
    generalize trim0 l = t at *
    cases hk : nameOk t with
    | true =>
      rw [hk] at hnm Hw
      go_enter Tryz.func149, Tryz.ntmps149
      go_wp2_with fail
      go_at_call 179
      refine (htr _).mono ?_
      rintro e w1 ⟨rfl, rfl⟩
      go_wp2_with fail
      go_at_call 132
      refine (hnm _).mono ?_
      rintro e w2 ⟨rfl, hb2⟩
      go_wp2_with fail
      go_ret2
      exact ⟨by rw [Hw.out]; rfl, hb2⟩
    | false =>
      rw [hk] at hnm Hw
      go_enter Tryz.func149, Tryz.ntmps149
      go_wp2_with fail
      go_at_call 179
      refine (htr _).mono ?_
      rintro e w1 ⟨rfl, rfl⟩
      go_wp2_with fail
      go_at_call 132
      refine (hnm _).mono ?_
      rintro e w2 ⟨rfl, hb2⟩
      go_wp2_with fail
      go_ret2
      exact ⟨by rw [Hw.out]; rfl, hb2⟩
  · have Hw := hid (show toNameR l = ([], 11) by rw [toNameR, if_pos h1])
    have n0 : ((l.length : Int) != 8) = true := by simp; omega
    go_enter Tryz.func149, Tryz.ntmps149
    go_wp2_with fail
    go_ret2
    exact ⟨by rw [Hw.out]; rfl, Below.refl _ _⟩
end Go.Proofs.YtjhnaeomaigimaaGreatDoor
