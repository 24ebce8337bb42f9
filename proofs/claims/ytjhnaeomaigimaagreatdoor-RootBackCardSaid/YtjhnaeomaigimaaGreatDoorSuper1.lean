/- Package super, function by function: its numbers; a first sector that is none. -/
import Derived.Test.YtjhnaeomaigimaaGreatDoorBase
import Derived.Test.YtjhnaeomaigimaaGreatDoorShelf
import Derived.Laws.EntriesVeiled
set_option linter.unusedVariables false
namespace Go.Proofs.YtjhnaeomaigimaaGreatDoor
open Go.RowKit Go.Shelf
attribute [local go_sem] bs_mk bs_append bs_extract bs_size bs_toList bs_get

theorem kept_cell {w w' : World} {a : Addr} {v : Value} (hb : Below w.heap.size w w') (h : w.cell? a = some v) : w'.cell? a = some v := by
  have hl : a.block < w.heap.size := by
    rcases Nat.lt_or_ge a.block w.heap.size with h' | h'
    · exact h'
    · rw [World.cell?, Array.getElem?_eq_none h'] at h; cases h
  rw [hb.cell hl]; exact h
abbrev gval (g h : Int) : Value := .agg #[.int .i64 g, .int .i64 h]
def geomOk (g h : Int) : Bool := decide (0 < g) && (decide (g ≤ 64) && (decide (8 ≤ h) && decide (h ≤ 256)))
theorem geomOk_iff {g h : Int} : geomOk g h = true ↔ 0 < g ∧ g ≤ 64 ∧ 8 ≤ h ∧ h ≤ 256 := by simp [geomOk]
theorem r4_fit (g h : Int) (w : World) : Calls Tryz.prog 116 #[gval g h] w fun e w' => e = .returned (.bool (geomOk g h)) ∧ Below w.heap.size w w' := by
  have hb := (Below.refl w.heap.size w).alloc (Nat.le_refl _) (.cells #[.int .i64 g, .int .i64 h] 70)
  by_cases h1 : 1 ≤ g
  · have h1' : 0 < g := by omega
    by_cases h2 : g ≤ 64
    · by_cases h3 : 8 ≤ h
      · have Hw := hid (show geomOk g h = decide (h ≤ 256) by simp [geomOk, h1', h2, h3])
        go_enter Tryz.func116, Tryz.ntmps116
        go_wp2_with fail
        go_ret
        exact ⟨by rw [Hw.out]; rfl, hb⟩
      · have Hw := hid (show geomOk g h = false by simp [geomOk, h3])
        go_enter Tryz.func116, Tryz.ntmps116
        go_wp2_with fail
        go_ret
        exact ⟨by rw [Hw.out]; rfl, hb⟩
    · have Hw := hid (show geomOk g h = false by simp [geomOk, h2])
      go_enter Tryz.func116, Tryz.ntmps116
      go_wp2_with fail
      go_ret
      exact ⟨by rw [Hw.out]; rfl, hb⟩
  · have Hw := hid (show geomOk g h = false by simp [geomOk]; omega)
    go_enter Tryz.func116, Tryz.ntmps116
    go_wp2_with fail
    go_ret
    exact ⟨by rw [Hw.out]; rfl, hb⟩
theorem and31 : ∀ k : Fin 256, bits .and .i64 ((k.val : Nat) : Int) 31 = ((k.val % 32 : Nat) : Int) := by decide +kernel
theorem r4_ref (k : Nat) (hk : k < 256) (w : World) : Calls Tryz.prog 157 #[.int .i64 k] w fun e w' => e = .returned (.tuple #[.int .i64 (87 + (k : Int) / 32), .int .i64 (2 * ((k % 32 : Nat) : Int))]) ∧ Below w.heap.size w w' := by
  go_enter Tryz.func157, Tryz.ntmps157
  go_wp2_with fail
  go_ret2
  refine ⟨?_, Below.refl _ _⟩
  simp
theorem r4_at (k : Int) (h0 : -1000000 ≤ k) (h1 : k ≤ 1000000) (w : World) : Calls Tryz.prog 130 #[.int .i64 k] w fun e w' => e = .returned (.int .i64 (96 + 2 * k)) ∧ Below w.heap.size w w' := by
  go_enter Tryz.func130, Tryz.ntmps130
  go_wp2_with fail
  go_ret
  exact ⟨rfl, Below.refl _ _⟩
theorem s_journal (w : World) : Calls Tryz.prog 205 #[] w fun e w' => e = .returned (.tuple #[.int .i64 6, .int .i64 81]) ∧ Below w.heap.size w w' := by
  go_enter Tryz.func205, Tryz.ntmps205
  go_wp2_with fail
  go_ret2
  exact ⟨rfl, Below.refl _ _⟩
theorem r4_journal (w : World) : Calls Tryz.prog 199 #[] w fun e w' => e = .returned (.tuple #[.int .i64 6, .int .i64 81]) ∧ Below w.heap.size w w' := by
  go_enter Tryz.func199, Tryz.ntmps199
  go_wp2_with fail
  go_ret2
  exact ⟨rfl, Below.refl _ _⟩
end Go.Proofs.YtjhnaeomaigimaaGreatDoor
