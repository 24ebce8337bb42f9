/- Package root, ref10: dirty bitmaps; a bitmap's place. -/
import Derived.Test.YtjhnaeomaigimaaGreatDoorRoot9
set_option linter.unusedVariables false
namespace Go.Proofs.YtjhnaeomaigimaaGreatDoor
open Go.RowKit Go.Shelf
attribute [local go_sem] bs_mk bs_append bs_extract bs_size bs_toList bs_get
def dmRows (l : List Dm) : List Value := l.flatMap dmCells
theorem dmRows_snoc (l : List Dm) (m : Dm) : dmRows l ++ dmCells m = dmRows (l ++ [m]) := by simp [dmRows]
theorem dmRows_length {l : List Dm} (h : ∀ m ∈ l, m.bits.length = 64) : (dmRows l).length = l.length * 66 := by
  induction l with
  | nil => rfl
  | cons x l ih =>
    have h1 := dmCells_length (h x (by simp))
    have h2 := ih (fun m hm => h m (by simp [hm]))
    simp only [dmRows, List.flatMap_cons, List.length_append, List.length_cons] at h2 ⊢
    omega
theorem one_dm (m : Dm) : ∀ u ∈ dmCells m, u.oneCell' = true := by
  intro u hu
  simp only [dmCells, List.mem_cons, List.mem_map] at hu
  rcases hu with rfl | rfl | ⟨b, _, rfl⟩ <;> simp [Value.oneCell']
theorem one_dms (l : List Dm) : ∀ u ∈ dmRows l, u.oneCell' = true := by
  intro u hu
  obtain ⟨m, _, h⟩ := List.mem_flatMap.1 hu
  exact one_dm m u h
abbrev dmPlace (i : Nat) : Value := .agg #[.int .i64 (4 + (i : Int)), .int .i64 0, .int .i64 64, .func (.func 54) #[] #[], .func (.func 115) #[] #[]]
theorem rt_mapAt (i : Nat) (hi : i < 2) (w : World) : Calls Tryz.prog 71 #[.int .i64 i] w fun e w' => e = .returned (dmPlace i) ∧ Below w.heap.size w w' := by
  unfold dmPlace
  obtain ⟨a, ha⟩ : ∃ a : Int, (4 : Int) + (i : Int) = a := ⟨_, rfl⟩
  rw [ha]
  have hB := Below.refl w.heap.size w
  have r := Blk.new w 164 #[.int .i64 a, .int .i64 0, .int .i64 64, .func (.func 54) #[] #[], .func (.func 115) #[] #[]]
  have rk := blk5 r
  have hB_1 := hB.alloc hB.size (.cells #[.int .i64 a, .int .i64 0, .int .i64 64, .func (.func 54) #[] #[], .func (.func 115) #[] #[]] 164)
  go_enter Tryz.func71, Tryz.ntmps71
  go_wp2_with fail
  refine bodyPost_ret (v := .agg #[.int .i64 a, .int .i64 0, .int .i64 64, .func (.func 54) #[] #[], .func (.func 115) #[] #[]]) (by simp [results, Tryz.results71, go_sem, rk]) rfl ?_
  exact ⟨rfl, hB_1⟩
end Go.Proofs.YtjhnaeomaigimaaGreatDoor
