/- PackOrder: for every input the law returns true and its arguments read as they did: numbers of one size are as their texts; texts laid over others at places that do not meet, in either order, make one text. No condition. -/
import Derived.Test.YtnlimkboenciaaaPackAwake
import Derived.Test.YtnlimkboenciaaaShut
set_option linter.unusedVariables false
namespace Go.Proofs.Ytnlimkboenciaaa.packOrder
open Go.ChangeShapes Go.WideShapes Go.ChangeAt Go.RowKit Go.Shelf Go.Lib
open Go.ChangeMaps (open_string shut_string)
attribute [local go_sem] bs_append bs_extract bs_size bs_toList

theorem w_less (a b : Nat) (ha : a < 18446744073709551616) (hb : b < 18446744073709551616) : Op.bytesLess (be 8 a) (be 8 b) = decide ((a : Int) < b) := by
  rw [be_less 8 a b (by simpa using ha) (by simpa using hb)]; congr 1; rw [Int.ofNat_lt]

theorem walk_bad1 (a b : Nat) (s t u : List UInt8) (i k : Int) (ha : a < 18446744073709551616) (hb : b < 18446744073709551616) (hs : s.length ≤ maxLen) (ht : t.length ≤ maxLen) (hu : u.length ≤ maxLen)
    (h : i < 0 ∨ (s.length : Int) - t.length < i)
    (w : World) :
    Calls Try.prog 3 #[.int .u64 a, .int .u64 b, .string (bs s), .int .i64 i, .string (bs t), .int .i64 k, .string (bs u)] w fun e w' => e = .returned (.bool true) ∧ Below w.heap.size w w' := by
  by_cases hk : 0 ≤ k ∧ k ≤ (s.length : Int) - u.length
  · obtain ⟨hk0, hk1⟩ := hk
    have hless := w_less a b ha hb
    have hs' := hs; have ht' := ht; have hu' := hu
    unfold maxLen at hs' ht' hu'
    go_enter Try.func3, Try.ntmps3
    go_wp2_with fail
    refine (put_ok a 8 ha (by omega) (by omega) _).mono ?_
    rintro e w1 ⟨rfl, hb1⟩
    go_wp2_with fail
    refine (put_ok b 8 hb (by omega) (by omega) _).mono ?_
    rintro e w2 ⟨rfl, hb2⟩
    replace hb1 := bt hb1 hb2
    clear hb2
    go_wp2_with fail
    refine (over_bad s t i _ hs ht h).mono ?_
    rintro e w3 ⟨rfl, rfl⟩
    go_wp2_with fail
    refine (over_ok s u k _ hs hu hk0 hk1).mono ?_
    rintro e w4 ⟨rfl, hb4⟩
    replace hb1 := bt hb1 hb4
    clear hb4
    go_wp2_with fail
    refine (awake03 _).mono ?_
    rintro e w5 ⟨rfl, hb5⟩
    go_wp2_with fail
    go_ret
    exact ⟨rfl, bt hb1 hb5⟩
  · replace hk : k < 0 ∨ (s.length : Int) - u.length < k := by omega
    have hless := w_less a b ha hb
    have hs' := hs; have ht' := ht; have hu' := hu
    unfold maxLen at hs' ht' hu'
    go_enter Try.func3, Try.ntmps3
    go_wp2_with fail
    refine (put_ok a 8 ha (by omega) (by omega) _).mono ?_
    rintro e w1 ⟨rfl, hb1⟩
    go_wp2_with fail
    refine (put_ok b 8 hb (by omega) (by omega) _).mono ?_
    rintro e w2 ⟨rfl, hb2⟩
    replace hb1 := bt hb1 hb2
    clear hb2
    go_wp2_with fail
    refine (over_bad s t i _ hs ht h).mono ?_
    rintro e w3 ⟨rfl, rfl⟩
    go_wp2_with fail
    refine (over_bad s u k _ hs hu hk).mono ?_
    rintro e w4 ⟨rfl, rfl⟩
    go_wp2_with fail
    refine (awake03 _).mono ?_
    rintro e w5 ⟨rfl, hb5⟩
    go_wp2_with fail
    go_ret
    exact ⟨rfl, bt hb1 hb5⟩
theorem walk_bad2 (a b : Nat) (s t u : List UInt8) (i k : Int) (ha : a < 18446744073709551616) (hb : b < 18446744073709551616) (hs : s.length ≤ maxLen) (ht : t.length ≤ maxLen) (hu : u.length ≤ maxLen)
    (hi0 : 0 ≤ i) (hi1 : i ≤ (s.length : Int) - t.length) (h : k < 0 ∨ (s.length : Int) - u.length < k)
    (w : World) :
    Calls Try.prog 3 #[.int .u64 a, .int .u64 b, .string (bs s), .int .i64 i, .string (bs t), .int .i64 k, .string (bs u)] w fun e w' => e = .returned (.bool true) ∧ Below w.heap.size w w' := by
  have hless := w_less a b ha hb
  have hs' := hs; have ht' := ht; have hu' := hu
  unfold maxLen at hs' ht' hu'
  go_enter Try.func3, Try.ntmps3
  go_wp2_with fail
  refine (put_ok a 8 ha (by omega) (by omega) _).mono ?_
  rintro e w1 ⟨rfl, hb1⟩
  go_wp2_with fail
  refine (put_ok b 8 hb (by omega) (by omega) _).mono ?_
  rintro e w2 ⟨rfl, hb2⟩
  replace hb1 := bt hb1 hb2
  clear hb2
  go_wp2_with fail
  refine (over_ok s t i _ hs ht hi0 hi1).mono ?_
  rintro e w3 ⟨rfl, hb3⟩
  replace hb1 := bt hb1 hb3
  clear hb3
  go_wp2_with fail
  refine (over_bad s u k _ hs hu h).mono ?_
  rintro e w4 ⟨rfl, rfl⟩
  go_wp2_with fail
  refine (awake03 _).mono ?_
  rintro e w5 ⟨rfl, hb5⟩
  go_wp2_with fail
  go_ret
  exact ⟨rfl, bt hb1 hb5⟩
theorem walk_meet1 (a b : Nat) (s t u : List UInt8) (i k : Int) (ha : a < 18446744073709551616) (hb : b < 18446744073709551616) (hs : s.length ≤ maxLen) (ht : t.length ≤ maxLen) (hu : u.length ≤ maxLen)
    (hi0 : 0 ≤ i) (hi1 : i ≤ (s.length : Int) - t.length) (hk0 : 0 ≤ k) (hk1 : k ≤ (s.length : Int) - u.length) (h1 : i < k) (h2 : k - i < t.length)
    (w : World) :
    Calls Try.prog 3 #[.int .u64 a, .int .u64 b, .string (bs s), .int .i64 i, .string (bs t), .int .i64 k, .string (bs u)] w fun e w' => e = .returned (.bool true) ∧ Below w.heap.size w w' := by
  have hless := w_less a b ha hb
  have hs' := hs; have ht' := ht; have hu' := hu
  unfold maxLen at hs' ht' hu'
  go_enter Try.func3, Try.ntmps3
  go_wp2_with fail
  refine (put_ok a 8 ha (by omega) (by omega) _).mono ?_
  rintro e w1 ⟨rfl, hb1⟩
  go_wp2_with fail
  refine (put_ok b 8 hb (by omega) (by omega) _).mono ?_
  rintro e w2 ⟨rfl, hb2⟩
  replace hb1 := bt hb1 hb2
  clear hb2
  go_wp2_with fail
  refine (over_ok s t i _ hs ht hi0 hi1).mono ?_
  rintro e w3 ⟨rfl, hb3⟩
  replace hb1 := bt hb1 hb3
  clear hb3
  go_wp2_with fail
  refine (over_ok s u k _ hs hu hk0 hk1).mono ?_
  rintro e w4 ⟨rfl, hb4⟩
  replace hb1 := bt hb1 hb4
  clear hb4
  go_wp2_with fail
  refine (awake03 _).mono ?_
  rintro e w5 ⟨rfl, hb5⟩
  go_wp2_with fail
  go_ret
  exact ⟨rfl, bt hb1 hb5⟩
theorem walk_meet2 (a b : Nat) (s t u : List UInt8) (i k : Int) (ha : a < 18446744073709551616) (hb : b < 18446744073709551616) (hs : s.length ≤ maxLen) (ht : t.length ≤ maxLen) (hu : u.length ≤ maxLen)
    (hi0 : 0 ≤ i) (hi1 : i ≤ (s.length : Int) - t.length) (hk0 : 0 ≤ k) (hk1 : k ≤ (s.length : Int) - u.length) (h1 : k < i) (h2 : i - k < u.length)
    (w : World) :
    Calls Try.prog 3 #[.int .u64 a, .int .u64 b, .string (bs s), .int .i64 i, .string (bs t), .int .i64 k, .string (bs u)] w fun e w' => e = .returned (.bool true) ∧ Below w.heap.size w w' := by
  have hless := w_less a b ha hb
  have hs' := hs; have ht' := ht; have hu' := hu
  unfold maxLen at hs' ht' hu'
  go_enter Try.func3, Try.ntmps3
  go_wp2_with fail
  refine (put_ok a 8 ha (by omega) (by omega) _).mono ?_
  rintro e w1 ⟨rfl, hb1⟩
  go_wp2_with fail
  refine (put_ok b 8 hb (by omega) (by omega) _).mono ?_
  rintro e w2 ⟨rfl, hb2⟩
  replace hb1 := bt hb1 hb2
  clear hb2
  go_wp2_with fail
  refine (over_ok s t i _ hs ht hi0 hi1).mono ?_
  rintro e w3 ⟨rfl, hb3⟩
  replace hb1 := bt hb1 hb3
  clear hb3
  go_wp2_with fail
  refine (over_ok s u k _ hs hu hk0 hk1).mono ?_
  rintro e w4 ⟨rfl, hb4⟩
  replace hb1 := bt hb1 hb4
  clear hb4
  go_wp2_with fail
  refine (awake03 _).mono ?_
  rintro e w5 ⟨rfl, hb5⟩
  go_wp2_with fail
  go_ret
  exact ⟨rfl, bt hb1 hb5⟩
theorem walk_meet3 (a b : Nat) (s t u : List UInt8) (i k : Int) (ha : a < 18446744073709551616) (hb : b < 18446744073709551616) (hs : s.length ≤ maxLen) (ht : t.length ≤ maxLen) (hu : u.length ≤ maxLen)
    (hi0 : 0 ≤ i) (hi1 : i ≤ (s.length : Int) - t.length) (hk0 : 0 ≤ k) (hk1 : k ≤ (s.length : Int) - u.length) (h1 : i = k) (h2 : t.isEmpty = false) (h3 : u.isEmpty = false)
    (w : World) :
    Calls Try.prog 3 #[.int .u64 a, .int .u64 b, .string (bs s), .int .i64 i, .string (bs t), .int .i64 k, .string (bs u)] w fun e w' => e = .returned (.bool true) ∧ Below w.heap.size w w' := by
  subst h1
  have hless := w_less a b ha hb
  have hs' := hs; have ht' := ht; have hu' := hu
  unfold maxLen at hs' ht' hu'
  go_enter Try.func3, Try.ntmps3
  go_wp2_with fail
  refine (put_ok a 8 ha (by omega) (by omega) _).mono ?_
  rintro e w1 ⟨rfl, hb1⟩
  go_wp2_with fail
  refine (put_ok b 8 hb (by omega) (by omega) _).mono ?_
  rintro e w2 ⟨rfl, hb2⟩
  replace hb1 := bt hb1 hb2
  clear hb2
  go_wp2_with fail
  refine (over_ok s t i _ hs ht hi0 hi1).mono ?_
  rintro e w3 ⟨rfl, hb3⟩
  replace hb1 := bt hb1 hb3
  clear hb3
  go_wp2_with fail
  refine (over_ok s u i _ hs hu hi0 hk1).mono ?_
  rintro e w4 ⟨rfl, hb4⟩
  replace hb1 := bt hb1 hb4
  clear hb4
  go_wp2_with fail
  refine (awake03 _).mono ?_
  rintro e w5 ⟨rfl, hb5⟩
  go_wp2_with fail
  go_ret
  exact ⟨rfl, bt hb1 hb5⟩
theorem walk_part1 (a b : Nat) (s t u : List UInt8) (i k : Int) (ha : a < 18446744073709551616) (hb : b < 18446744073709551616) (hs : s.length ≤ maxLen) (ht : t.length ≤ maxLen) (hu : u.length ≤ maxLen)
    (hi0 : 0 ≤ i) (hi1 : i ≤ (s.length : Int) - t.length) (hk0 : 0 ≤ k) (hk1 : k ≤ (s.length : Int) - u.length) (h1 : i < k) (h2 : (t.length : Int) ≤ k - i)
    (w : World) :
    Calls Try.prog 3 #[.int .u64 a, .int .u64 b, .string (bs s), .int .i64 i, .string (bs t), .int .i64 k, .string (bs u)] w fun e w' => e = .returned (.bool true) ∧ Below w.heap.size w w' := by
  have hless := w_less a b ha hb
  have hs' := hs; have ht' := ht; have hu' := hu
  unfold maxLen at hs' ht' hu'
  go_enter Try.func3, Try.ntmps3
  go_wp2_with fail
  refine (put_ok a 8 ha (by omega) (by omega) _).mono ?_
  rintro e w1 ⟨rfl, hb1⟩
  go_wp2_with fail
  refine (put_ok b 8 hb (by omega) (by omega) _).mono ?_
  rintro e w2 ⟨rfl, hb2⟩
  replace hb1 := bt hb1 hb2
  clear hb2
  go_wp2_with fail
  refine (over_ok s t i _ hs ht hi0 hi1).mono ?_
  rintro e w3 ⟨rfl, hb3⟩
  replace hb1 := bt hb1 hb3
  clear hb3
  go_wp2_with fail
  refine (over_ok s u k _ hs hu hk0 hk1).mono ?_
  rintro e w4 ⟨rfl, hb4⟩
  replace hb1 := bt hb1 hb4
  clear hb4
  go_wp2_with fail
  have Hlx := hid (over_length s t i.toNat (by omega))
  have Hly := hid (over_length s u k.toNat (by omega))
  have Heq := hid (over_comm s t u i.toNat k.toNat (by omega) (by omega) (by first | (simp only [List.eq_nil_iff_length_eq_zero]; omega)))
  have hlz : (over (over s i.toNat t) k.toNat u).length = s.length := by rw [over_length _ _ _ (by rw [Hlx.out]; omega), Hlx.out]
  refine (over_ok (over s i.toNat t) u k _ (by rw [Hlx.out]; exact hs) hu hk0 (by rw [Hlx.out]; exact hk1)).mono ?_
  rintro e w5 ⟨rfl, hb5⟩
  replace hb1 := bt hb1 hb5
  clear hb5
  go_wp2_with fail
  refine (over_ok (over s k.toNat u) t i _ (by rw [Hly.out]; exact hs) ht hi0 (by rw [Hly.out]; exact hi1)).mono ?_
  rintro e w6 ⟨rfl, hb6⟩
  replace hb1 := bt hb1 hb6
  clear hb6
  rw [← Heq.out]
  go_wp2_with fail
  refine (awake03 _).mono ?_
  rintro e w5 ⟨rfl, hb5⟩
  go_wp2_with fail
  go_ret
  exact ⟨rfl, bt hb1 hb5⟩
theorem walk_part2 (a b : Nat) (s t u : List UInt8) (i k : Int) (ha : a < 18446744073709551616) (hb : b < 18446744073709551616) (hs : s.length ≤ maxLen) (ht : t.length ≤ maxLen) (hu : u.length ≤ maxLen)
    (hi0 : 0 ≤ i) (hi1 : i ≤ (s.length : Int) - t.length) (hk0 : 0 ≤ k) (hk1 : k ≤ (s.length : Int) - u.length) (h1 : k < i) (h2 : (u.length : Int) ≤ i - k)
    (w : World) :
    Calls Try.prog 3 #[.int .u64 a, .int .u64 b, .string (bs s), .int .i64 i, .string (bs t), .int .i64 k, .string (bs u)] w fun e w' => e = .returned (.bool true) ∧ Below w.heap.size w w' := by
  have hless := w_less a b ha hb
  have hs' := hs; have ht' := ht; have hu' := hu
  unfold maxLen at hs' ht' hu'
  go_enter Try.func3, Try.ntmps3
  go_wp2_with fail
  refine (put_ok a 8 ha (by omega) (by omega) _).mono ?_
  rintro e w1 ⟨rfl, hb1⟩
  go_wp2_with fail
  refine (put_ok b 8 hb (by omega) (by omega) _).mono ?_
  rintro e w2 ⟨rfl, hb2⟩
  replace hb1 := bt hb1 hb2
  clear hb2
  go_wp2_with fail
  refine (over_ok s t i _ hs ht hi0 hi1).mono ?_
  rintro e w3 ⟨rfl, hb3⟩
  replace hb1 := bt hb1 hb3
  clear hb3
  go_wp2_with fail
  refine (over_ok s u k _ hs hu hk0 hk1).mono ?_
  rintro e w4 ⟨rfl, hb4⟩
  replace hb1 := bt hb1 hb4
  clear hb4
  go_wp2_with fail
  have Hlx := hid (over_length s t i.toNat (by omega))
  have Hly := hid (over_length s u k.toNat (by omega))
  have Heq := hid (over_comm s t u i.toNat k.toNat (by omega) (by omega) (by first | (simp only [List.eq_nil_iff_length_eq_zero]; omega)))
  have hlz : (over (over s i.toNat t) k.toNat u).length = s.length := by rw [over_length _ _ _ (by rw [Hlx.out]; omega), Hlx.out]
  refine (over_ok (over s i.toNat t) u k _ (by rw [Hlx.out]; exact hs) hu hk0 (by rw [Hlx.out]; exact hk1)).mono ?_
  rintro e w5 ⟨rfl, hb5⟩
  replace hb1 := bt hb1 hb5
  clear hb5
  go_wp2_with fail
  refine (over_ok (over s k.toNat u) t i _ (by rw [Hly.out]; exact hs) ht hi0 (by rw [Hly.out]; exact hi1)).mono ?_
  rintro e w6 ⟨rfl, hb6⟩
  replace hb1 := bt hb1 hb6
  clear hb6
  rw [← Heq.out]
  go_wp2_with fail
  refine (awake03 _).mono ?_
  rintro e w5 ⟨rfl, hb5⟩
  go_wp2_with fail
  go_ret
  exact ⟨rfl, bt hb1 hb5⟩
theorem walk_same1 (a b : Nat) (s t u : List UInt8) (i k : Int) (ha : a < 18446744073709551616) (hb : b < 18446744073709551616) (hs : s.length ≤ maxLen) (ht : t.length ≤ maxLen) (hu : u.length ≤ maxLen)
    (hi0 : 0 ≤ i) (hi1 : i ≤ (s.length : Int) - t.length) (hk0 : 0 ≤ k) (hk1 : k ≤ (s.length : Int) - u.length) (h1 : i = k) (h2 : t = [])
    (w : World) :
    Calls Try.prog 3 #[.int .u64 a, .int .u64 b, .string (bs s), .int .i64 i, .string (bs t), .int .i64 k, .string (bs u)] w fun e w' => e = .returned (.bool true) ∧ Below w.heap.size w w' := by
  subst h1
  have hte : t.isEmpty = true := by simp [h2]
  have H2 := hid h2; clear h2
  have hless := w_less a b ha hb
  have hs' := hs; have ht' := ht; have hu' := hu
  unfold maxLen at hs' ht' hu'
  go_enter Try.func3, Try.ntmps3
  go_wp2_with fail
  refine (put_ok a 8 ha (by omega) (by omega) _).mono ?_
  rintro e w1 ⟨rfl, hb1⟩
  go_wp2_with fail
  refine (put_ok b 8 hb (by omega) (by omega) _).mono ?_
  rintro e w2 ⟨rfl, hb2⟩
  replace hb1 := bt hb1 hb2
  clear hb2
  go_wp2_with fail
  refine (over_ok s t i _ hs ht hi0 hi1).mono ?_
  rintro e w3 ⟨rfl, hb3⟩
  replace hb1 := bt hb1 hb3
  clear hb3
  go_wp2_with fail
  refine (over_ok s u i _ hs hu hi0 hk1).mono ?_
  rintro e w4 ⟨rfl, hb4⟩
  replace hb1 := bt hb1 hb4
  clear hb4
  go_wp2_with fail
  have Hlx := hid (over_length s t i.toNat (by omega))
  have Hly := hid (over_length s u i.toNat (by omega))
  have Heq := hid (over_comm s t u i.toNat i.toNat (by omega) (by omega) (.inr (.inr (.inl H2.out))))
  have hlz : (over (over s i.toNat t) i.toNat u).length = s.length := by rw [over_length _ _ _ (by rw [Hlx.out]; omega), Hlx.out]
  refine (over_ok (over s i.toNat t) u i _ (by rw [Hlx.out]; exact hs) hu hi0 (by rw [Hlx.out]; exact hk1)).mono ?_
  rintro e w5 ⟨rfl, hb5⟩
  replace hb1 := bt hb1 hb5
  clear hb5
  go_wp2_with fail
  refine (over_ok (over s i.toNat u) t i _ (by rw [Hly.out]; exact hs) ht hi0 (by rw [Hly.out]; exact hi1)).mono ?_
  rintro e w6 ⟨rfl, hb6⟩
  replace hb1 := bt hb1 hb6
  clear hb6
  rw [← Heq.out]
  go_wp2_with fail
  refine (awake03 _).mono ?_
  rintro e w5 ⟨rfl, hb5⟩
  go_wp2_with fail
  go_ret
  exact ⟨rfl, bt hb1 hb5⟩
theorem walk_same2 (a b : Nat) (s t u : List UInt8) (i k : Int) (ha : a < 18446744073709551616) (hb : b < 18446744073709551616) (hs : s.length ≤ maxLen) (ht : t.length ≤ maxLen) (hu : u.length ≤ maxLen)
    (hi0 : 0 ≤ i) (hi1 : i ≤ (s.length : Int) - t.length) (hk0 : 0 ≤ k) (hk1 : k ≤ (s.length : Int) - u.length) (h1 : i = k) (h2 : u = []) (h3 : t ≠ [])
    (w : World) :
    Calls Try.prog 3 #[.int .u64 a, .int .u64 b, .string (bs s), .int .i64 i, .string (bs t), .int .i64 k, .string (bs u)] w fun e w' => e = .returned (.bool true) ∧ Below w.heap.size w w' := by
  subst h1
  have hte : t.isEmpty = false := by simpa using h3
  have hue : u.isEmpty = true := by simp [h2]
  have H2 := hid h2; clear h2; clear h3
  have hless := w_less a b ha hb
  have hs' := hs; have ht' := ht; have hu' := hu
  unfold maxLen at hs' ht' hu'
  go_enter Try.func3, Try.ntmps3
  go_wp2_with fail
  refine (put_ok a 8 ha (by omega) (by omega) _).mono ?_
  rintro e w1 ⟨rfl, hb1⟩
  go_wp2_with fail
  refine (put_ok b 8 hb (by omega) (by omega) _).mono ?_
  rintro e w2 ⟨rfl, hb2⟩
  replace hb1 := bt hb1 hb2
  clear hb2
  go_wp2_with fail
  refine (over_ok s t i _ hs ht hi0 hi1).mono ?_
  rintro e w3 ⟨rfl, hb3⟩
  replace hb1 := bt hb1 hb3
  clear hb3
  go_wp2_with fail
  refine (over_ok s u i _ hs hu hi0 hk1).mono ?_
  rintro e w4 ⟨rfl, hb4⟩
  replace hb1 := bt hb1 hb4
  clear hb4
  go_wp2_with fail
  have Hlx := hid (over_length s t i.toNat (by omega))
  have Hly := hid (over_length s u i.toNat (by omega))
  have Heq := hid (over_comm s t u i.toNat i.toNat (by omega) (by omega) (.inr (.inr (.inr H2.out))))
  have hlz : (over (over s i.toNat t) i.toNat u).length = s.length := by rw [over_length _ _ _ (by rw [Hlx.out]; omega), Hlx.out]
  refine (over_ok (over s i.toNat t) u i _ (by rw [Hlx.out]; exact hs) hu hi0 (by rw [Hlx.out]; exact hk1)).mono ?_
  rintro e w5 ⟨rfl, hb5⟩
  replace hb1 := bt hb1 hb5
  clear hb5
  go_wp2_with fail
  refine (over_ok (over s i.toNat u) t i _ (by rw [Hly.out]; exact hs) ht hi0 (by rw [Hly.out]; exact hi1)).mono ?_
  rintro e w6 ⟨rfl, hb6⟩
  replace hb1 := bt hb1 hb6
  clear hb6
  rw [← Heq.out]
  go_wp2_with fail
  refine (awake03 _).mono ?_
  rintro e w5 ⟨rfl, hb5⟩
  go_wp2_with fail
  go_ret
  exact ⟨rfl, bt hb1 hb5⟩
theorem walk (a0 a1 : Int) (a2 : ByteArray) (a3 : Int) (a4 : ByteArray) (a5 : Int) (a6 : ByteArray) (w0 : (Lit.int .u64 a0).wf = true) (w1 : (Lit.int .u64 a1).wf = true) (w2 : a2.size ≤ maxLen) (w3 : (Lit.int .i64 a3).wf = true) (w4 : a4.size ≤ maxLen) (w5 : (Lit.int .i64 a5).wf = true) (w6 : a6.size ≤ maxLen) (w : World) :
    Calls Try.prog 3 #[.int .u64 a0, .int .u64 a1, .string a2, .int .i64 a3, .string a4, .int .i64 a5, .string a6] w fun e w' => e = .returned (.bool true) ∧ Below w.heap.size w w' := by
  obtain ⟨s, rfl⟩ := bs_of a2
  obtain ⟨t, rfl⟩ := bs_of a4
  obtain ⟨u, rfl⟩ := bs_of a6
  rw [bs_size] at w2 w4 w6
  have q0 := bounds_u64 w0
  have q1 := bounds_u64 w1
  obtain ⟨a, rfl⟩ := Int.eq_ofNat_of_zero_le q0.1
  obtain ⟨b, rfl⟩ := Int.eq_ofNat_of_zero_le q1.1
  have ha : a < 18446744073709551616 := by omega
  have hb : b < 18446744073709551616 := by omega
  by_cases h1 : a3 < 0 ∨ (s.length : Int) - t.length < a3
  · exact walk_bad1 a b s t u a3 a5 ha hb w2 w4 w6 h1 w
  have hi0 : 0 ≤ a3 := by omega
  have hi1 : a3 ≤ (s.length : Int) - t.length := by omega
  clear h1
  by_cases h1 : a5 < 0 ∨ (s.length : Int) - u.length < a5
  · exact walk_bad2 a b s t u a3 a5 ha hb w2 w4 w6 hi0 hi1 h1 w
  have hk0 : 0 ≤ a5 := by omega
  have hk1 : a5 ≤ (s.length : Int) - u.length := by omega
  clear h1
  rcases Int.lt_trichotomy a3 a5 with h | h | h
  · by_cases h2 : (t.length : Int) ≤ a5 - a3
    · exact walk_part1 a b s t u a3 a5 ha hb w2 w4 w6 hi0 hi1 hk0 hk1 h h2 w
    · exact walk_meet1 a b s t u a3 a5 ha hb w2 w4 w6 hi0 hi1 hk0 hk1 h (by omega) w
  · by_cases h2 : t = []
    · exact walk_same1 a b s t u a3 a5 ha hb w2 w4 w6 hi0 hi1 hk0 hk1 h h2 w
    · by_cases h3 : u = []
      · exact walk_same2 a b s t u a3 a5 ha hb w2 w4 w6 hi0 hi1 hk0 hk1 h h3 h2 w
      · exact walk_meet3 a b s t u a3 a5 ha hb w2 w4 w6 hi0 hi1 hk0 hk1 h (by simpa using h2) (by simpa using h3) w
  · by_cases h2 : (u.length : Int) ≤ a3 - a5
    · exact walk_part2 a b s t u a3 a5 ha hb w2 w4 w6 hi0 hi1 hk0 hk1 h h2 w
    · exact walk_meet2 a b s t u a3 a5 ha hb w2 w4 w6 hi0 hi1 hk0 hk1 h (by omega) w
/-! ### The row -/
theorem own : ownKnob Try.prog.godebug = none := by kernel_rfl
set_option maxRecDepth 100000 in
theorem lifted (os : Os) (started : os.Started) (H : Type) (enc : TypeId × Value → H) :
    ReturnsInHanded {} Try.checked os 3 .any (Rows.packOrderSpec.pre6 enc Try.prog Try.f3 Rows.packOrderRow.domain false) (Rows.packOrderSpec.post enc Try.prog Try.f3 false true false false) := by
  refine returnsInHanded_of_change (C := Try.checked) own started (by kernel_rfl) Try.func3
    (ChangeSpec.witness6 (enc := enc) (C := Try.checked) false ⟨#[], #[.int .u64 0, .int .u64 0, .string ByteArray.empty, .int .i64 0, .string ByteArray.empty, .int .i64 0, .string ByteArray.empty], []⟩ 8 (by kernel_rfl) (by kernel_rfl) (by kernel_rfl) (by kernel_rfl)) ?_
  intro W base args ds gs before hval0 hW hcnd _
  have hval : ∀ (j : Nat) t v, Try.f3.params[j]? = some t → args[j]? = some v → Value.okWide Try.prog W .any base t v := hval0
  have hW' := hW
  obtain ⟨p, q, hA0, hV, rfl, hfz, hnd⟩ := hW
  have hA : DataW.TrodAll enc Try.prog W 0 (fun _ => true) true Try.f3.params.toList args.toList ds p := hA0
  rw [Try.params3] at hA hval
  obtain ⟨v0, vs0, d0, ds0, p0, q0, hargs, rfl, rfl, h0, r0⟩ := trodAll_cons hA
  obtain ⟨v1, vs1, d1, ds1, p1, q1, rfl, rfl, rfl, h1, r1⟩ := trodAll_cons r0
  obtain ⟨v2, vs2, d2, ds2, p2, q2, rfl, rfl, rfl, h2, r2⟩ := trodAll_cons r1
  obtain ⟨v3, vs3, d3, ds3, p3, q3, rfl, rfl, rfl, h3, r3⟩ := trodAll_cons r2
  obtain ⟨v4, vs4, d4, ds4, p4, q4, rfl, rfl, rfl, h4, r4⟩ := trodAll_cons r3
  obtain ⟨v5, vs5, d5, ds5, p5, q5, rfl, rfl, rfl, h5, r5⟩ := trodAll_cons r4
  obtain ⟨v6, vs6, d6, ds6, p6, q6, rfl, rfl, rfl, h6, r6⟩ := trodAll_cons r5
  obtain ⟨rfl, rfl, rfl⟩ := trodAll_nil r6
  obtain rfl : args = #[v0, v1, v2, v3, v4, v5, v6] := by cases args; simp_all
  obtain ⟨rfl, rfl⟩ := trodVars_none hV
  obtain ⟨a0, rfl, rfl, rfl, w0⟩ := open_int Try.underlying22 (hval 0 22 v0 rfl rfl) h0
  obtain ⟨a1, rfl, rfl, rfl, w1⟩ := open_int Try.underlying22 (hval 1 22 v1 rfl rfl) h1
  obtain ⟨a2, rfl, rfl, rfl, w2⟩ := open_string Try.underlying9 (hval 2 9 v2 rfl rfl) h2
  obtain ⟨a3, rfl, rfl, rfl, w3⟩ := open_int Try.underlying3 (hval 3 3 v3 rfl rfl) h3
  obtain ⟨a4, rfl, rfl, rfl, w4⟩ := open_string Try.underlying9 (hval 4 9 v4 rfl rfl) h4
  obtain ⟨a5, rfl, rfl, rfl, w5⟩ := open_int Try.underlying3 (hval 5 3 v5 rfl rfl) h5
  obtain ⟨a6, rfl, rfl, rfl, w6⟩ := open_string Try.underlying9 (hval 6 9 v6 rfl rfl) h6
  clear hA0 hval0
  simp only [List.append_nil] at hW'
  refine (walk a0 a1 a2 a3 a4 a5 a6 w0 w1 w2 w3 w4 w5 w6 W).mono fun e W' ⟨he, hb⟩ => ?_
  subst he
  exact ⟨_, rfl, post_of_below (pa := []) (pv := []) hW' (fun _ _ _ => (trodAll_cons_mk (shut_bool Try.underlying4 _) trodAll_mk0)) (fun sp _ => (trodAll_cons_mk (shut_int Try.underlying22 w0) (trodAll_cons_mk (shut_int Try.underlying22 w1) (trodAll_cons_mk (shut_string Try.underlying9 w2) (trodAll_cons_mk (shut_int Try.underlying3 w3) (trodAll_cons_mk (shut_string Try.underlying9 w4) (trodAll_cons_mk (shut_int Try.underlying3 w5) (trodAll_cons_mk (shut_string Try.underlying9 w6) trodAll_mk0)))))))) (fun _ _ => rfl) rfl hb (ok_one (by kernel_rfl) rfl (okWide_bool_mk Try.underlying4 _))⟩
theorem over_ : Rows.packOrderRow.holds Try.pinned (OpenSpec.ofChange Rows.packOrderSpec) :=
  OpenClaim.holds_of_wide 3 Try.f3 rfl rfl rfl rfl rfl rfl rfl ⟨rfl, rfl, rfl, rfl, rfl⟩ rfl rfl rfl rfl rfl (by kernel_rfl) Try.func3 (by kernel_rfl)
    (of_decide_eq_true (by kernel_rfl)) (by unfold Func.isWrapper; first | (rw [if_pos (by decide +kernel)]; kernel_rfl) | (rw [if_neg (by decide +kernel)]; exact ⟨rfl, rfl⟩))
    (fun os started H enc _ => lifted os started H enc)
/-- The statement. -/
theorem proved : Rows.PackOrderSaid := over_
#print axioms proved
end Go.Proofs.Ytnlimkboenciaaa.packOrder
