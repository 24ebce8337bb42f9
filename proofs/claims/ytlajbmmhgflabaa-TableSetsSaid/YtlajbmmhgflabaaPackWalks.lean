/- Package pack, function by function: what each hands back; nothing that lay in memory has turned. -/
import Derived.Test.YtlajbmmhgflabaaPackPut
import Derived.Test.YtlajbmmhgflabaaShelf
set_option linter.unusedVariables false
namespace Go.Proofs.Ytlajbmmhgflabaa
open Go.RowKit Go.Shelf
attribute [local go_sem] bs_mk bs_append bs_extract bs_size bs_toList bs_get

theorem put_bad (x size : Int) (w : World) (h : size < 1 ∨ 8 < size) :
    Calls Try.prog 51 #[.int .u64 x, .int .i64 size] w fun e w' => e = .returned (.string (bs [])) ∧ Below w.heap.size w w' := by
  rcases h with h | h
  · go_enter Try.func51, Try.ntmps51
    go_wp2
    go_ret
    exact ⟨rfl, (Below.refl _ _).alloc (Nat.le_refl _) _⟩
  · by_cases h0 : size < 1
    · omega
    · go_enter Try.func51, Try.ntmps51
      go_wp2
      go_ret
      exact ⟨rfl, (Below.refl _ _).alloc (Nat.le_refl _) _⟩
theorem put_ok (x size : Nat) (hx : x < 18446744073709551616) (hs : 1 ≤ size) (hs8 : size ≤ 8) (w : World) :
    Calls Try.prog 51 #[.int .u64 x, .int .i64 size] w fun e w' => e = .returned (.string (bs (be size x))) ∧ Below w.heap.size w w' :=
  (callsIn_wide (n := 3)).1 ((put_in .wide 3 trivial trivial trivial rfl (by omega) x size hx hs hs8 w).mono fun e w' ⟨⟨ys, hy, he⟩, hb⟩ => ⟨by rw [he, putSt_done _ _ _ hy]; rfl, hb⟩)
def putS (x : Nat) (size : Int) : List UInt8 := if 1 ≤ size ∧ size ≤ 8 then be size.toNat x else []
theorem put_any (x size : Int) (h0 : 0 ≤ x) (hx : x < 18446744073709551616) (w : World) :
    Calls Try.prog 51 #[.int .u64 x, .int .i64 size] w fun e w' => e = .returned (.string (bs (putS x.toNat size))) ∧ Below w.heap.size w w' := by
  obtain ⟨x, rfl⟩ := Int.eq_ofNat_of_zero_le h0
  by_cases h : 1 ≤ size ∧ size ≤ 8
  · obtain ⟨k, rfl⟩ := Int.eq_ofNat_of_zero_le (show 0 ≤ size by omega)
    refine (put_ok x k (by omega) (by omega) (by omega) w).mono ?_
    rintro e w' ⟨rfl, hb⟩
    exact ⟨by rw [putS, if_pos h]; simp, hb⟩
  · refine (put_bad x size w (by omega)).mono ?_
    rintro e w' ⟨rfl, hb⟩
    exact ⟨by rw [putS, if_neg h], hb⟩
theorem over_bad (s t : List UInt8) (k : Int) (w : World) (hs : s.length ≤ maxLen) (ht : t.length ≤ maxLen) (h : k < 0 ∨ (s.length : Int) - t.length < k) :
    Calls Try.prog 83 #[.string (bs s), .int .i64 k, .string (bs t)] w fun e w' => e = .returned (.tuple #[.string (bs []), .int .i64 10]) ∧ w = w' := by
  unfold maxLen at hs ht
  rcases h with h | h
  · go_enter Try.func83, Try.ntmps83
    go_wp2
    go_ret2
    exact ⟨rfl, rfl⟩
  · by_cases h0 : k < 0
    · go_enter Try.func83, Try.ntmps83
      go_wp2
      go_ret2
      exact ⟨rfl, rfl⟩
    · go_enter Try.func83, Try.ntmps83
      go_wp2
      go_ret2
      exact ⟨rfl, rfl⟩
theorem over_ok (s t : List UInt8) (k : Int) (w : World) (hs : s.length ≤ maxLen) (ht : t.length ≤ maxLen) (h0 : 0 ≤ k) (h : k ≤ (s.length : Int) - t.length) :
    Calls Try.prog 83 #[.string (bs s), .int .i64 k, .string (bs t)] w fun e w' => e = .returned (.tuple #[.string (bs (over s k.toNat t)), .int .i64 0]) ∧ Below w.heap.size w w' := by
  unfold maxLen at hs ht
  obtain ⟨n, rfl⟩ := Int.eq_ofNat_of_zero_le h0
  go_enter Try.func83, Try.ntmps83
  go_wp2
  go_quiet (fail)
  go_wp2
  go_ret2
  exact ⟨by simp [over], drewN_below _ _⟩
end Go.Proofs.Ytlajbmmhgflabaa
