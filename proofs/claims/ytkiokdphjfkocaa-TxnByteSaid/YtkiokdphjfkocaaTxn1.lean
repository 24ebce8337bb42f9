/- Package txn and the document's: sizes, what a head tells, numbers and pads. -/
import Derived.Test.YtkiokdphjfkocaaTxnLaw
import Derived.Test.YtkiokdphjfkocaaPackWalks
import Derived.Test.YtkiokdphjfkocaaPackNum
import Derived.Test.YtkiokdphjfkocaaTail
set_option linter.unusedVariables false
namespace Go.Proofs.Ytkiokdphjfkocaa
open Go.RowKit Go.Shelf
attribute [local go_sem] bs_mk bs_append bs_extract bs_size bs_toList bs_get
def okI (n : Int) : Prop := -9223372036854775808 ≤ n ∧ n ≤ 9223372036854775807
def txSizeI (n : Int) : Int := if n < 1 ∨ 24 < n then 0 else n + (n - 1) / 16 + 2
theorem txSizeI_nat (n : Nat) : txSizeI n = txSize n := by
  unfold txSizeI txSize
  by_cases h : n = 0 ∨ 24 < n
  · rw [if_pos h, if_pos (by omega)]; rfl
  · rw [if_neg h, if_neg (by omega)]; omega
theorem tx_size (n : Int) (hn : okI n) (w : World) : Calls Try.prog 16 #[.int .i64 n] w fun e w' => e = .returned (.int .i64 (txSizeI n)) ∧ Below w.heap.size w w' := by
  unfold okI at hn
  by_cases h : n < 1 ∨ 24 < n
  · have Hw := hid (show txSizeI n = 0 by unfold txSizeI; rw [if_pos h])
    rcases h with h | h
    · go_enter Try.func16, Try.ntmps16
      go_wp2_with fail
      go_ret
      exact ⟨by rw [Hw.out]; rfl, Below.refl _ _⟩
    · have h1 : ¬ n < 1 := by omega
      go_enter Try.func16, Try.ntmps16
      go_wp2_with fail
      go_ret
      exact ⟨by rw [Hw.out]; rfl, Below.refl _ _⟩
  · have Hw := hid (show txSizeI n = n + (n - 1).tdiv 16 + 2 by unfold txSizeI; rw [if_neg h, Int.tdiv_eq_ediv_of_nonneg (by omega)])
    have hq : 0 ≤ (n - 1).tdiv 16 ∧ (n - 1).tdiv 16 ≤ 1 := by rw [Int.tdiv_eq_ediv_of_nonneg (by omega)]; omega
    have h1 : ¬ n < 1 := by omega
    have h2 : ¬ 24 < n := by omega
    have w1 := i64w (x := n - 1) ⟨by omega, by omega⟩
    have w2 := i64w (x := (n - 1).tdiv 16) ⟨by omega, by omega⟩
    have w3 := i64w (x := n + (n - 1).tdiv 16) ⟨by omega, by omega⟩
    have w4 := i64w (x := n + (n - 1).tdiv 16 + 2) ⟨by omega, by omega⟩
    clear h
    go_enter Try.func16, Try.ntmps16
    go_wp2_with fail
    go_ret
    exact ⟨by rw [Hw.out]; rfl, Below.refl _ _⟩
theorem r6_size (n : Int) (hn : okI n) (w : World) : Calls Try.prog 17 #[.int .i64 n] w fun e w' => e = .returned (.int .i64 (txSizeI n)) ∧ Below w.heap.size w w' := by
  unfold okI at hn
  by_cases h : n < 1 ∨ 24 < n
  · have Hw := hid (show txSizeI n = 0 by unfold txSizeI; rw [if_pos h])
    rcases h with h | h
    · go_enter Try.func17, Try.ntmps17
      go_wp2_with fail
      go_ret
      exact ⟨by rw [Hw.out]; rfl, Below.refl _ _⟩
    · have h1 : ¬ n < 1 := by omega
      go_enter Try.func17, Try.ntmps17
      go_wp2_with fail
      go_ret
      exact ⟨by rw [Hw.out]; rfl, Below.refl _ _⟩
  · have Hw := hid (show txSizeI n = 1 + (n + 15).tdiv 16 + n by unfold txSizeI; rw [if_neg h, Int.tdiv_eq_ediv_of_nonneg (by omega)]; omega)
    have hq : 0 ≤ (n + 15).tdiv 16 ∧ (n + 15).tdiv 16 ≤ 2 := by rw [Int.tdiv_eq_ediv_of_nonneg (by omega)]; omega
    have h1 : ¬ n < 1 := by omega
    have h2 : ¬ 24 < n := by omega
    have w0 := i64w (x := n + 16) ⟨by omega, by omega⟩
    have w1 := i64w (x := n + 15) ⟨by omega, by omega⟩
    have w1' := i64w (x := n + 16 - 1) ⟨by omega, by omega⟩
    have w2 := i64w (x := (n + 15).tdiv 16) ⟨by omega, by omega⟩
    have w3 := i64w (x := 1 + (n + 15).tdiv 16) ⟨by omega, by omega⟩
    have w4 := i64w (x := 1 + (n + 15).tdiv 16 + n) ⟨by omega, by omega⟩
    have e1 : n + 16 - 1 = n + 15 := by omega
    clear h
    go_enter Try.func17, Try.ntmps17
    go_wp2_with fail
    go_ret
    exact ⟨by rw [Hw.out]; rfl, Below.refl _ _⟩
theorem tx_num_u (x : Nat) (hx : x < 18446744073709551616) (k : Nat) (h1 : 1 ≤ k) (h2 : k ≤ 8) (w : World) :
    Calls Try.prog 22 #[.int .u64 x, .int .i64 k] w fun e w' => e = .returned (.string (bs (be k x))) ∧ Below w.heap.size w w' := by
  have hp := fun W => put_ok x k hx h1 h2 W
  go_enter Try.func22, Try.ntmps22
  go_wp2_with (go_at_call 47; refine (hp _).mono ?_; rintro e w' ⟨rfl, hb⟩)
  go_ret
  exact ⟨rfl, hb⟩
theorem tx_num_i (x : Nat) (hx : x < 9223372036854775808) (k : Nat) (h1 : 1 ≤ k) (h2 : k ≤ 8) (w : World) :
    Calls Try.prog 23 #[.int .i64 x, .int .i64 k] w fun e w' => e = .returned (.string (bs (be k x))) ∧ Below w.heap.size w w' := by
  have hp := fun W => put_ok x k (by omega) h1 h2 W
  have hw := u64w (x := (x : Int)) ⟨by omega, by omega⟩
  go_enter Try.func23, Try.ntmps23
  go_wp2_with (go_at_call 47; refine (hp _).mono ?_; rintro e w' ⟨rfl, hb⟩)
  go_ret
  exact ⟨rfl, hb⟩
theorem tx_pad (s : List UInt8) (hs : s.length ≤ 64) (w : World) : Calls Try.prog 27 #[.string (bs s)] w fun e w' => e = .returned (.string (bs (pad64 s))) ∧ Below w.heap.size w w' := by
  have hp := fun W => pad_ok s (by unfold maxLen; omega) 64 (by omega) (by omega) W
  go_enter Try.func27, Try.ntmps27
  go_wp2_with (go_at_call 53; refine (hp _).mono ?_; rintro e w' ⟨rfl, hb⟩)
  go_ret
  exact ⟨rfl, hb⟩
theorem r6_pad (s : List UInt8) (hs : s.length ≤ 64) (w : World) : Calls Try.prog 31 #[.string (bs s)] w fun e w' => e = .returned (.string (bs (pad64 s))) ∧ Below w.heap.size w w' := by
  have hp := fun W => rpad_ok s (by unfold maxLen; omega) 64 (by omega) (by omega) W
  go_enter Try.func31, Try.ntmps31
  go_wp2_with (go_at_call 56; refine (hp _).mono ?_; rintro e w' ⟨rfl, hb⟩)
  go_ret
  exact ⟨rfl, hb⟩
theorem hn_lt (s : List UInt8) : hn s < 65536 := un_bound (s.drop 12) 2 (by omega)
theorem hm_lt (s : List UInt8) : hm s < 65536 := un_bound (s.drop 14) 2 (by omega)
theorem hcount_no {s : List UInt8} (h : s.length ≠ 64 ∨ magicJ.isPrefixOf s = false ∨ txSizeI (hn s) = 0 ∨ hn s + hm s ≠ 65535) : hcount s = 0 := by
  unfold hcount
  rw [if_neg]
  rintro ⟨h1, h2, h3, h4⟩
  rcases h with h | h | h | h
  · exact h h1
  · rw [h] at h2; cases h2
  · rw [txSizeI_nat] at h; omega
  · exact h h4
theorem hcount_yes {s : List UInt8} (h1 : s.length = 64) (h2 : magicJ.isPrefixOf s = true) (h3 : txSizeI (hn s) ≠ 0) (h4 : hn s + hm s = 65535) : hcount s = hn s := by
  unfold hcount
  rw [if_pos ⟨h1, h2, by rw [txSizeI_nat] at h3; omega, h4⟩]
theorem prefix_take {s : List UInt8} (h : 4 ≤ s.length) : magicJ.isPrefixOf s = decide (s.take 4 = magicJ) := by
  rw [Bool.eq_iff_iff, List.isPrefixOf_iff_prefix, decide_eq_true_iff]
  constructor
  · rintro ⟨t, rfl⟩; rfl
  · intro e; exact ⟨s.drop 4, by rw [← e, List.take_append_drop]⟩
set_option maxRecDepth 100000 in
theorem tx_count (s : List UInt8) (hs : s.length ≤ maxLen) (w : World) : Calls Try.prog 18 #[.string (bs s)] w fun e w' => e = .returned (.int .i64 (hcount s)) ∧ Below w.heap.size w w' := by
  unfold maxLen at hs
  have hp := fun W => Try.strings_HasPrefix (bs s) (bs magicJ) W
  rw [bs_list, bs_list] at hp
  have n0 : Lib.hasPrefix s magicJ = magicJ.isPrefixOf s := rfl
  rw [n0] at hp
  clear n0
  by_cases h1 : s.length = 64
  · have g1 : ((s.length : Int) != 64) = false := by simp; omega
    cases h2 : magicJ.isPrefixOf s with
    | false =>
      have Hw := hid (hcount_no (s := s) (.inr (.inl h2)))
      rw [h2] at hp
      clear h2
      go_enter Try.func18, Try.ntmps18
      go_wp2_with fail
      go_at_call 43
      refine (hp _).mono ?_
      rintro e w1 ⟨rfl, rfl⟩
      go_wp2_with fail
      go_ret
      exact ⟨by rw [Hw.out]; rfl, Below.refl _ _⟩
    | true =>
      have ht1 := fun W => take_ok (s.drop 12) (by unfold maxLen; rw [List.length_drop]; omega) 2 (by omega) (by omega) (by rw [List.length_drop]; omega) W
      have ht2 := fun W => take_ok ((s.drop 12).drop 2) (by unfold maxLen; rw [List.length_drop, List.length_drop]; omega) 2 (by omega) (by omega) (by rw [List.length_drop, List.length_drop]; omega) W
      have hn1 : un ((s.drop 12).take (2 : Int).toNat) = hn s := rfl
      have hm1 : un (((s.drop 12).drop 2).take (2 : Int).toNat) = hm s := by rw [List.drop_drop]; rfl
      have hnl := hn_lt s
      have hml := hm_lt s
      rw [hn1] at ht1
      rw [hm1] at ht2
      have hsz := fun W => tx_size (hn s) (by unfold okI; omega) W
      have e1 : List.drop 12 (List.take 64 s) = s.drop 12 := by rw [List.take_of_length_le (by omega)]
      have Hno := hid (hcount_no (s := s))
      have Hyes := hid (hcount_yes (s := s) h1 h2)
      rw [h2] at hp
      have w1 := i64w (x := (hn s : Int)) ⟨by omega, by omega⟩
      have w2 := u64w (x := (hn s : Int) + (hm s : Int)) ⟨by omega, by omega⟩
      have e2 : (s.drop 12).drop (2 : Int).toNat = (s.drop 12).drop 2 := rfl
      rw [e2] at ht1
      clear hn1 hm1 e2 h2
      generalize s.drop 12 = s12 at *
      generalize s12.drop 2 = s14 at *
      generalize hN : hn s = N at *
      generalize hM : hm s = M at *
      by_cases h3 : txSizeI N = 0
      · have Hw := hid (Hno.out (.inr (.inr (.inl h3))))
        rw [h3] at hsz
        clear h3
        go_enter Try.func18, Try.ntmps18
        go_wp2_with fail
        go_at_call 43
        refine (hp _).mono ?_
        rintro e w1 ⟨rfl, rfl⟩
        go_wp2_with fail
        go_at_call 38
        refine (ht1 _).mono ?_
        rintro e w2 ⟨rfl, hb2⟩
        go_wp2_with fail
        go_at_call 38
        refine (ht2 _).mono ?_
        rintro e w3 ⟨rfl, hb3⟩
        go_wp2_with fail
        go_at_call 16
        refine (hsz _).mono ?_
        rintro e w4 ⟨rfl, hb4⟩
        go_wp2_with fail
        go_ret
        exact ⟨by rw [Hw.out]; rfl, bt (bt hb2 hb3) hb4⟩
      · have g3 : (txSizeI N == 0) = false := by simpa using h3
        by_cases h4 : N + M = 65535
        · have Hw := hid (Hyes.out h3 h4)
          have g4 : (((N : Int) + (M : Int)) != 65535) = false := by simp; omega
          generalize txSizeI N = Z at *
          clear h3 Hno Hyes
          go_enter Try.func18, Try.ntmps18
          go_wp2_with fail
          go_at_call 43
          refine (hp _).mono ?_
          rintro e w1 ⟨rfl, rfl⟩
          go_wp2_with fail
          go_at_call 38
          refine (ht1 _).mono ?_
          rintro e w2 ⟨rfl, hb2⟩
          go_wp2_with fail
          go_at_call 38
          refine (ht2 _).mono ?_
          rintro e w3 ⟨rfl, hb3⟩
          go_wp2_with fail
          go_at_call 16
          refine (hsz _).mono ?_
          rintro e w4 ⟨rfl, hb4⟩
          go_wp2_with fail
          go_ret
          exact ⟨by rw [Hw.out]; rfl, bt (bt hb2 hb3) hb4⟩
        · have Hw := hid (Hno.out (.inr (.inr (.inr h4))))
          have g4 : (((N : Int) + (M : Int)) != 65535) = true := by simp; omega
          generalize txSizeI N = Z at *
          clear h3 Hno Hyes h4
          go_enter Try.func18, Try.ntmps18
          go_wp2_with fail
          go_at_call 43
          refine (hp _).mono ?_
          rintro e w1 ⟨rfl, rfl⟩
          go_wp2_with fail
          go_at_call 38
          refine (ht1 _).mono ?_
          rintro e w2 ⟨rfl, hb2⟩
          go_wp2_with fail
          go_at_call 38
          refine (ht2 _).mono ?_
          rintro e w3 ⟨rfl, hb3⟩
          go_wp2_with fail
          go_at_call 16
          refine (hsz _).mono ?_
          rintro e w4 ⟨rfl, hb4⟩
          go_wp2_with fail
          go_ret
          exact ⟨by rw [Hw.out]; rfl, bt (bt hb2 hb3) hb4⟩
  · have g1 : ((s.length : Int) != 64) = true := by simp; omega
    have Hw := hid (hcount_no (s := s) (.inl h1))
    go_enter Try.func18, Try.ntmps18
    go_wp2_with fail
    go_ret
    exact ⟨by rw [Hw.out]; rfl, Below.refl _ _⟩
end Go.Proofs.Ytkiokdphjfkocaa
