/- Package ref10: rows of snapshots held against each other. -/
import Derived.Test.YtjhnaeomaigimaaGreatDoorRoot6
set_option linter.unusedVariables false
namespace Go.Proofs.YtjhnaeomaigimaaGreatDoor
open Go.RowKit Go.Shelf
attribute [local go_sem] bs_mk bs_append bs_extract bs_size bs_toList bs_get
def snCells (l : List Sn) : List Value := l.flatMap fun e => [.int .u32 e.id, .int .i64 e.l1, .string (bs e.name)]
theorem snCells_length (l : List Sn) : (snCells l).length = l.length * 3 := by
  induction l with
  | nil => rfl
  | cons x l ih => simp only [snCells, List.flatMap_cons, List.length_append, List.length_cons, List.length_nil] at ih ⊢; omega
theorem one_sns (l : List Sn) : ∀ u ∈ snCells l, u.oneCell' = true := by
  intro u hu
  simp only [snCells, List.mem_flatMap, List.mem_cons, List.not_mem_nil, or_false] at hu
  obtain ⟨e, _, rfl | rfl | rfl⟩ := hu <;> simp [Value.oneCell']
theorem snCells_snoc (l : List Sn) (s : Sn) : snCells l ++ [.int .u32 s.id, .int .i64 s.l1, .string (bs s.name)] = snCells (l ++ [s]) := by simp [snCells]
theorem snCells_get (l : List Sn) (i : Nat) (h : i < l.length) : (snCells l)[i * 3]? = some (.int .u32 l[i].id) ∧ (snCells l)[i * 3 + 1]? = some (.int .i64 l[i].l1) ∧ (snCells l)[i * 3 + 2]? = some (.string (bs l[i].name)) := by
  induction l generalizing i with
  | nil => simp at h
  | cons x l ih =>
    have e : snCells (x :: l) = .int .u32 x.id :: .int .i64 x.l1 :: .string (bs x.name) :: snCells l := rfl
    cases i with
    | zero => rw [e]; exact ⟨rfl, rfl, rfl⟩
    | succ i =>
      have := ih i (by simpa using h)
      rw [e, show (i + 1) * 3 = i * 3 + 1 + 1 + 1 by omega]
      simpa using this
theorem Cells.sn {w : World} {A : Option Addr} {l : List Sn} (h : Cells w A (snCells l)) {i : Nat} (hi : i < l.length) :
    ∃ b off, A = some ⟨b, off, none⟩ ∧ ∀ j (hj : j < l.length), w.cell? ⟨b, off + j * 3, none⟩ = some (.int .u32 l[j].id) ∧ w.cell? ⟨b, off + j * 3 + 1, none⟩ = some (.int .i64 l[j].l1) ∧ w.cell? ⟨b, off + j * 3 + 2, none⟩ = some (.string (bs l[j].name)) := by
  rcases h with h | ⟨b, off, rfl, h⟩
  · have := congrArg List.length h; rw [snCells_length] at this; simp at this; omega
  · refine ⟨b, off, rfl, fun j hj => ?_⟩
    obtain ⟨e1, e2, e3⟩ := snCells_get l j hj
    exact ⟨h _ _ e1, by rw [Nat.add_assoc]; exact h _ _ e2, by rw [Nat.add_assoc]; exact h _ _ e3⟩
theorem Tryz.infoSnap : (Tryz.prog.info? 33).map (fun i => (i.zero, i.size, i.bytes)) = some (some (.agg #[.int .u32 0, .int .i64 0, .string (bs [])]), 3, 32) := by kernel_rfl
set_option maxRecDepth 100000 in
theorem r10_snapRow (l : List Sn) (A B : Option Addr) (c d : Nat) (w : World) (hA : Cells w A (snCells l)) (hB : Cells w B (snCells l)) (hl : l.length ≤ 1000000) :
    Calls Tryz.prog 23 #[.slice A l.length c, .slice B l.length d] w fun e w' => e = .returned (.bool true) ∧ Below w.heap.size w w' := by
  cases l with
  | nil =>
    go_enter Tryz.func23, Tryz.ntmps23
    go_wp2_with fail
    go_loopw [5] (fun x W => x = .int .i64 0 ∧ Below w.heap.size w W) (fun x _ => 0)
    case atStart => exact ⟨rfl, Below.refl _ _⟩
    case round =>
      obtain ⟨rfl, hb⟩ := hrel
      go_wp2_with fail
      go_ret
      exact ⟨rfl, hb⟩
  | cons v l =>
  obtain ⟨pa, oa, rfl, ha⟩ := hA.sn (i := 0) (by simp)
  obtain ⟨pb, ob, rfl, hb⟩ := hB.sn (i := 0) (by simp)
  generalize hm : v :: l = m at *
  have HA := hid (fun (W : World) (hb : Below w.heap.size w W) (j : Nat) (hj : j < m.length) => And.intro (cell_below hb (ha j hj).1) (And.intro (cell_below hb (ha j hj).2.1) (cell_below hb (ha j hj).2.2)))
  have HB := hid (fun (W : World) (hbl : Below w.heap.size w W) (j : Nat) (hj : j < m.length) => And.intro (cell_below hbl (hb j hj).1) (And.intro (cell_below hbl (hb j hj).2.1) (cell_below hbl (hb j hj).2.2)))
  clear hA hB ha hb hm
  go_enter Tryz.func23, Tryz.ntmps23
  go_wp2_with fail
  go_loopw [5] (fun x W => ∃ i : Nat, i ≤ m.length ∧ x = .int .i64 i ∧ Below w.heap.size w W) (fun x _ => m.length - (intOf x).toNat)
  case atStart => exact ⟨0, Nat.zero_le _, rfl, Below.refl _ _⟩
  case round =>
    obtain ⟨i, hi, rfl, hb⟩ := hrel
    by_cases hlt : i < m.length
    · have k0 := HA.out _ hb i hlt
      have k1 := HB.out _ hb i hlt
      generalize m[i] = e at k0 k1
      go_wp2_with fail
      go_quiet (fail)
      go_wp2_with fail
      go_roundw
      case rel => exact ⟨i + 1, by omega, by go_num, below_drewN hb _⟩
      case measure => simp [intOf]; omega
    · obtain rfl : i = m.length := by omega
      go_wp2_with fail
      go_ret
      exact ⟨rfl, hb⟩
end Go.Proofs.YtjhnaeomaigimaaGreatDoor
