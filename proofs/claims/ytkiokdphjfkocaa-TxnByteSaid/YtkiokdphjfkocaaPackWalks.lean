/- Package pack, function by function: what each hands back; nothing that lay in memory has turned. -/
import Derived.Test.YtkiokdphjfkocaaPackPut
import Derived.Test.YtkiokdphjfkocaaShelf
set_option linter.unusedVariables false
namespace Go.Proofs.Ytkiokdphjfkocaa
open Go.RowKit Go.Shelf
attribute [local go_sem] bs_mk bs_append bs_extract bs_size bs_toList bs_get

theorem put_bad (x size : Int) (w : World) (h : size < 1 ∨ 8 < size) :
    Calls Try.prog 47 #[.int .u64 x, .int .i64 size] w fun e w' => e = .returned (.string (bs [])) ∧ Below w.heap.size w w' := by
  rcases h with h | h
  · go_enter Try.func47, Try.ntmps47
    go_wp2
    go_ret
    exact ⟨rfl, (Below.refl _ _).alloc (Nat.le_refl _) _⟩
  · by_cases h0 : size < 1
    · omega
    · go_enter Try.func47, Try.ntmps47
      go_wp2
      go_ret
      exact ⟨rfl, (Below.refl _ _).alloc (Nat.le_refl _) _⟩
theorem put_ok (x size : Nat) (hx : x < 18446744073709551616) (hs : 1 ≤ size) (hs8 : size ≤ 8) (w : World) :
    Calls Try.prog 47 #[.int .u64 x, .int .i64 size] w fun e w' => e = .returned (.string (bs (be size x))) ∧ Below w.heap.size w w' :=
  (callsIn_wide (n := 3)).1 ((put_in .wide 3 trivial trivial trivial rfl (by omega) x size hx hs hs8 w).mono fun e w' ⟨⟨ys, hy, he⟩, hb⟩ => ⟨by rw [he, putSt_done _ _ _ hy]; rfl, hb⟩)
def putS (x : Nat) (size : Int) : List UInt8 := if 1 ≤ size ∧ size ≤ 8 then be size.toNat x else []
theorem put_any (x size : Int) (h0 : 0 ≤ x) (hx : x < 18446744073709551616) (w : World) :
    Calls Try.prog 47 #[.int .u64 x, .int .i64 size] w fun e w' => e = .returned (.string (bs (putS x.toNat size))) ∧ Below w.heap.size w w' := by
  obtain ⟨x, rfl⟩ := Int.eq_ofNat_of_zero_le h0
  by_cases h : 1 ≤ size ∧ size ≤ 8
  · obtain ⟨k, rfl⟩ := Int.eq_ofNat_of_zero_le (show 0 ≤ size by omega)
    refine (put_ok x k (by omega) (by omega) (by omega) w).mono ?_
    rintro e w' ⟨rfl, hb⟩
    exact ⟨by rw [putS, if_pos h]; simp, hb⟩
  · refine (put_bad x size w (by omega)).mono ?_
    rintro e w' ⟨rfl, hb⟩
    exact ⟨by rw [putS, if_neg h], hb⟩
theorem repeat0 (c : Nat) : Lib.repeatL [0] c = List.replicate c 0 := by
  induction c with
  | zero => simp [Lib.repeatL]
  | succ c ih => simp [Lib.repeatL, ih, List.replicate_succ]
theorem pad_bad (l : List UInt8) (hl : l.length ≤ maxLen) (k : Int) (h : k < l.length ∨ 65536 < k) (w : World) :
    Calls Try.prog 53 #[.string (bs l), .int .i64 k] w fun e w' => e = .returned (.tuple #[.string (bs []), .int .i64 11]) ∧ w = w' := by
  unfold maxLen at hl
  rcases h with h | h
  · go_enter Try.func53, Try.ntmps53
    go_wp2
    go_ret2
    exact ⟨rfl, rfl⟩
  · by_cases h0 : k < l.length
    · go_enter Try.func53, Try.ntmps53
      go_wp2
      go_ret2
      exact ⟨rfl, rfl⟩
    · go_enter Try.func53, Try.ntmps53
      go_wp2
      go_ret2
      exact ⟨rfl, rfl⟩
theorem pad_ok (l : List UInt8) (hl : l.length ≤ maxLen) (k : Int) (h : (l.length : Int) ≤ k) (h2 : k ≤ 65536) (w : World) :
    Calls Try.prog 53 #[.string (bs l), .int .i64 k] w fun e w' => e = .returned (.tuple #[.string (bs (l ++ List.replicate (k.toNat - l.length) 0)), .int .i64 0]) ∧ Below w.heap.size w w' := by
  unfold maxLen at hl
  obtain ⟨k, rfl⟩ := Int.eq_ofNat_of_zero_le (show 0 ≤ k by omega)
  have hrep := fun W => Try.strings_Repeat (bs [0]) (k - l.length) W (by omega) (by rw [bs_size]; simp; omega)
  rw [show ((k - l.length : Nat) : Int) = (k : Int) - l.length by omega, bs_list, repeat0, bs_mk] at hrep
  go_enter Try.func53, Try.ntmps53
  go_wp2_with (go_at_call 67; refine (hrep _).mono ?_; rintro e w' ⟨rfl, hb⟩)
  go_ret2
  refine ⟨?_, hb⟩
  simp
end Go.Proofs.Ytkiokdphjfkocaa
