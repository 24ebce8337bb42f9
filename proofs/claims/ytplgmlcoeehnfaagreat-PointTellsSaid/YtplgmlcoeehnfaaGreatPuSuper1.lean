/- Package super, function by function: its numbers; a first sector that is none. -/
import Derived.Test.YtplgmlcoeehnfaaGreatPuBase
import Derived.Test.YtplgmlcoeehnfaaGreatShelf
import Derived.Laws.EntriesVeiled
set_option linter.unusedVariables false
namespace Go.Proofs.YtplgmlcoeehnfaaGreat
open Go.RowKit Go.Shelf
attribute [local go_sem] bs_mk bs_append bs_extract bs_size bs_toList bs_get

abbrev gval (g h : Int) : Value := .agg #[.int .i64 g, .int .i64 h]
def geomOk (g h : Int) : Bool := decide (0 < g) && (decide (g ≤ 64) && (decide (8 ≤ h) && decide (h ≤ 256)))
theorem r4_fit (g h : Int) (w : World) : Calls Tryz.prog 54 #[gval g h] w fun e w' => e = .returned (.bool (geomOk g h)) ∧ Below w.heap.size w w' := by
  have hb := (Below.refl w.heap.size w).alloc (Nat.le_refl _) (.cells #[.int .i64 g, .int .i64 h] 30)
  by_cases h1 : 1 ≤ g
  · have h1' : 0 < g := by omega
    by_cases h2 : g ≤ 64
    · by_cases h3 : 8 ≤ h
      · have Hw := hid (show geomOk g h = decide (h ≤ 256) by simp [geomOk, h1', h2, h3])
        go_enter Tryz.func54, Tryz.ntmps54
        go_wp2_with fail
        go_ret
        exact ⟨by rw [Hw.out]; rfl, hb⟩
      · have Hw := hid (show geomOk g h = false by simp [geomOk, h3])
        go_enter Tryz.func54, Tryz.ntmps54
        go_wp2_with fail
        go_ret
        exact ⟨by rw [Hw.out]; rfl, hb⟩
    · have Hw := hid (show geomOk g h = false by simp [geomOk, h2])
      go_enter Tryz.func54, Tryz.ntmps54
      go_wp2_with fail
      go_ret
      exact ⟨by rw [Hw.out]; rfl, hb⟩
  · have Hw := hid (show geomOk g h = false by simp [geomOk]; omega)
    go_enter Tryz.func54, Tryz.ntmps54
    go_wp2_with fail
    go_ret
    exact ⟨by rw [Hw.out]; rfl, hb⟩
theorem s_at (k : Int) (h0 : -1000000 ≤ k) (h1 : k ≤ 1000000) (w : World) : Calls Tryz.prog 171 #[.int .i64 k] w fun e w' => e = .returned (.int .i64 (96 + 2 * k)) ∧ Below w.heap.size w w' := by
  go_enter Tryz.func171, Tryz.ntmps171
  go_wp2_with fail
  go_ret
  exact ⟨rfl, Below.refl _ _⟩
theorem and31 : ∀ k : Fin 256, bits .and .i64 ((k.val : Nat) : Int) 31 = ((k.val % 32 : Nat) : Int) := by decide +kernel
theorem s_ref (k : Nat) (hk : k < 256) (w : World) : Calls Tryz.prog 175 #[.int .i64 k] w fun e w' => e = .returned (.tuple #[.int .i64 (87 + (k : Int) / 32), .int .i64 (2 * ((k % 32 : Nat) : Int))]) ∧ Below w.heap.size w w' := by
  have hb := and31 ⟨k, hk⟩
  simp only at hb
  have hr : k % 32 < 32 := by omega
  generalize k % 32 = r at *
  go_enter Tryz.func175, Tryz.ntmps175
  go_wp2_with fail
  go_ret2
  refine ⟨?_, Below.refl _ _⟩
  simp
  omega
theorem r4_ref (k : Nat) (hk : k < 256) (w : World) : Calls Tryz.prog 102 #[.int .i64 k] w fun e w' => e = .returned (.tuple #[.int .i64 (87 + (k : Int) / 32), .int .i64 (2 * ((k % 32 : Nat) : Int))]) ∧ Below w.heap.size w w' := by
  go_enter Tryz.func102, Tryz.ntmps102
  go_wp2_with fail
  go_ret2
  refine ⟨?_, Below.refl _ _⟩
  simp
theorem r4_at (k : Int) (h0 : -1000000 ≤ k) (h1 : k ≤ 1000000) (w : World) : Calls Tryz.prog 180 #[.int .i64 k] w fun e w' => e = .returned (.int .i64 (96 + 2 * k)) ∧ Below w.heap.size w w' := by
  go_enter Tryz.func180, Tryz.ntmps180
  go_wp2_with fail
  go_ret
  exact ⟨rfl, Below.refl _ _⟩
end Go.Proofs.YtplgmlcoeehnfaaGreat
