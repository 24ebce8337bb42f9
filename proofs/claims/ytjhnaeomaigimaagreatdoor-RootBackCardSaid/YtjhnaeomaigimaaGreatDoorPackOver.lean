/- Packages pack and cofferdamref03: a text laid over another. -/
import Derived.Test.YtjhnaeomaigimaaGreatDoorPlain1
import Derived.Test.YtjhnaeomaigimaaGreatDoorShelf
set_option linter.unusedVariables false
namespace Go.Proofs.YtjhnaeomaigimaaGreatDoor
open Go.RowKit Go.Shelf
attribute [local go_sem] bs_mk bs_append bs_extract bs_size bs_toList bs_get
theorem laid_bad {s t : List UInt8} {k : Int} (h : k < 0 ∨ (s.length : Int) - t.length < k) : Pn.laidOver s k t = ([], 10) := by rw [Pn.laidOver, if_pos h]
theorem laid_ok {s t : List UInt8} {k : Nat} (h : (k : Int) ≤ (s.length : Int) - t.length) : Pn.laidOver s k t = (s.take k ++ t ++ s.drop (k + t.length), 0) := by
  rw [Pn.laidOver, if_neg (by omega), Int.toNat_natCast, over]
theorem pk_over (s t : List UInt8) (k : Int) (w : World) (hs : s.length ≤ 1000000) (ht : t.length ≤ 9223372036854775807) :
    Calls Tryz.prog 104 #[.string (bs s), .int .i64 k, .string (bs t)] w fun e w' => e = .returned (.tuple #[.string (bs (Pn.laidOver s k t).1), .int .i64 (Pn.laidOver s k t).2]) ∧ Below w.heap.size w w' := by
  by_cases h0 : k < 0
  · have Hw := hid (laid_bad (s := s) (t := t) (.inl h0))
    go_enter Tryz.func104, Tryz.ntmps104
    go_wp2
    go_ret2
    exact ⟨by rw [Hw.out]; rfl, Below.refl _ _⟩
  · by_cases h : (s.length : Int) - t.length < k
    · have Hw := hid (laid_bad (.inr h))
      go_enter Tryz.func104, Tryz.ntmps104
      go_wp2
      go_ret2
      exact ⟨by rw [Hw.out]; rfl, Below.refl _ _⟩
    · obtain ⟨n, rfl⟩ := Int.eq_ofNat_of_zero_le (show 0 ≤ k by omega)
      have Hw := hid (laid_ok (s := s) (t := t) (k := n) (by omega))
      have h1 : t.length ≤ 1000000 := by omega
      go_enter Tryz.func104, Tryz.ntmps104
      go_wp2
      go_quiet (fail)
      go_wp2
      go_ret2
      exact ⟨by rw [Hw.out]; simp, drewN_below _ _⟩
theorem r3_over (s t : List UInt8) (k : Int) (w : World) (hs : s.length ≤ 1000000) (ht : t.length ≤ 9223372036854775807) :
    Calls Tryz.prog 106 #[.string (bs s), .int .i64 k, .string (bs t)] w fun e w' => e = .returned (.tuple #[.string (bs (Pn.laidOver s k t).1), .int .i64 (Pn.laidOver s k t).2]) ∧ Below w.heap.size w w' := by
  by_cases h0 : k < 0
  · have Hw := hid (laid_bad (s := s) (t := t) (.inl h0))
    go_enter Tryz.func106, Tryz.ntmps106
    go_wp2
    go_ret2
    exact ⟨by rw [Hw.out]; rfl, Below.refl _ _⟩
  · by_cases h2 : (s.length : Int) < t.length
    · have Hw := hid (laid_bad (s := s) (t := t) (k := k) (.inr (by omega)))
      go_enter Tryz.func106, Tryz.ntmps106
      go_wp2
      go_ret2
      exact ⟨by rw [Hw.out]; rfl, Below.refl _ _⟩
    · by_cases h : (s.length : Int) - t.length < k
      · have Hw := hid (laid_bad (.inr h))
        go_enter Tryz.func106, Tryz.ntmps106
        go_wp2
        go_ret2
        exact ⟨by rw [Hw.out]; rfl, Below.refl _ _⟩
      · obtain ⟨n, rfl⟩ := Int.eq_ofNat_of_zero_le (show 0 ≤ k by omega)
        have Hw := hid (laid_ok (s := s) (t := t) (k := n) (by omega))
        have h1 : t.length ≤ 1000000 := by omega
        go_enter Tryz.func106, Tryz.ntmps106
        go_wp2
        go_quiet (fail)
        go_wp2
        go_ret2
        exact ⟨by rw [Hw.out]; simp, drewN_below _ _⟩
end Go.Proofs.YtjhnaeomaigimaaGreatDoor
