/- The document's ref11: all that a first table has; rows of entries held against each other. Package ref15: the same rows of extents. -/
import Derived.Test.YtlapjkbefkmohaaGreatSdTable5
import Derived.Test.YtlapjkbefkmohaaGreatSdRefcs
import Derived.Test.YtlapjkbefkmohaaGreatSdLaw15a
set_option linter.unusedVariables false
namespace Go.Proofs.YtlapjkbefkmohaaGreat
open Go.RowKit Go.Shelf
attribute [local go_sem] bs_mk bs_append bs_extract bs_size bs_toList bs_get
def entCells (l : List (Int × Int)) : List Value := l.flatMap fun e => [.int .i64 e.1, .int .i64 e.2]
theorem entCells_length (l : List (Int × Int)) : (entCells l).length = l.length * 2 := by
 induction l with
 | nil => rfl
 | cons x l ih => simp only [entCells, List.flatMap_cons, List.length_append, List.length_cons, List.length_nil] at ih ⊢; omega
theorem entCells_snoc (l : List (Int × Int)) (K A : Int) : entCells l ++ [.int .i64 K, .int .i64 A] = entCells (l ++ [(K, A)]) := by simp [entCells]
theorem entCells_get (l : List (Int × Int)) (i : Nat) (h : i < l.length) : (entCells l)[i * 2]? = some (.int .i64 l[i].1) ∧ (entCells l)[i * 2 + 1]? = some (.int .i64 l[i].2) := by
 induction l generalizing i with
 | nil => simp at h
 | cons x l ih =>
  have e : entCells (x :: l) = .int .i64 x.1 :: .int .i64 x.2 :: entCells l := rfl
  cases i with
  | zero => rw [e]; exact ⟨rfl, rfl⟩
  | succ i =>
   have := ih i (by simpa using h)
   rw [e, show (i + 1) * 2 = i * 2 + 1 + 1 by omega]
   simpa using this
theorem Cells.ent {w : World} {A : Option Addr} {l : List (Int × Int)} (h : Cells w A (entCells l)) {i : Nat} (hi : i < l.length) :
 ∃ b off, A = some ⟨b, off, none⟩ ∧ ∀ j (hj : j < l.length), w.cell? ⟨b, off + j * 2, none⟩ = some (.int .i64 l[j].1) ∧ w.cell? ⟨b, off + j * 2 + 1, none⟩ = some (.int .i64 l[j].2) := by
 rcases h with h | ⟨b, off, rfl, h⟩
 · have := congrArg List.length h; rw [entCells_length] at this; simp at this; omega
 · refine ⟨b, off, rfl, fun j hj => ?_⟩
   obtain ⟨e1, e2⟩ := entCells_get l j hj
   exact ⟨h _ _ e1, by rw [Nat.add_assoc]; exact h _ _ e2⟩
end Go.Proofs.YtlapjkbefkmohaaGreat

set_option linter.unusedVariables false
namespace Go.Proofs.YtlapjkbefkmohaaGreat
open Go.RowKit Go.Shelf
attribute [local go_sem] bs_mk bs_append bs_extract bs_size bs_toList bs_get
/-- What is left of a range: the next piece, and what is left then. -/
theorem Tiles.next {a n : Int} {l : List Cut} (h : Tiles a n l) (hn : 0 < n) : ∃ l', l = (a / 128, a % 128, min n (128 - a % 128)) :: l' ∧ Tiles (a + min n (128 - a % 128)) (n - min n (128 - a % 128)) l' := by
 cases h with
 | nil h => omega
 | cons h1 h2 h3 => subst h2; exact ⟨_, rfl, h3⟩
theorem Tiles.done {a n : Int} {l : List Cut} (h : Tiles a n l) (hn : n ≤ 0) : l = [] := by
 cases h with
 | nil h => rfl
 | cons h1 => omega
set_option maxRecDepth 100000 in
theorem r15_row (l : List (Int × Int)) (A B : Option Addr) (c d : Nat) (w : World) (hA : Cells w A (entCells l)) (hB : Cells w B (entCells l)) (hl : l.length ≤ 1000000) :
 Calls Tryz.prog 13 #[.slice A l.length c, .slice B l.length d] w fun e w' => e = .returned (.bool true) ∧ Below w.heap.size w w' := by
 cases l with
 | nil =>
  go_enter Tryz.func13, Tryz.ntmps13
  go_wp2_with fail
  go_loopw [5] (fun x W => x = .int .i64 0 ∧ Below w.heap.size w W) (fun x _ => 0)
  case atStart => exact ⟨rfl, Below.refl _ _⟩
  case round =>
   obtain ⟨rfl, hb⟩ := hrel
   go_wp2_with fail
   go_ret
   exact ⟨rfl, hb⟩
 | cons v l =>
 obtain ⟨pa, oa, rfl, ha⟩ := hA.ent (i := 0) (by simp)
 obtain ⟨pb, ob, rfl, hb⟩ := hB.ent (i := 0) (by simp)
 generalize hm : v :: l = m at *
 have HA := hid (fun (W : World) (hb : Below w.heap.size w W) (j : Nat) (hj : j < m.length) => And.intro (cell_below hb (ha j hj).1) (cell_below hb (ha j hj).2))
 have HB := hid (fun (W : World) (hbl : Below w.heap.size w W) (j : Nat) (hj : j < m.length) => And.intro (cell_below hbl (hb j hj).1) (cell_below hbl (hb j hj).2))
 clear hA hB ha hb hm
 go_enter Tryz.func13, Tryz.ntmps13
 go_wp2_with fail
 go_loopw [5] (fun x W => ∃ i : Nat, i ≤ m.length ∧ x = .int .i64 i ∧ Below w.heap.size w W) (fun x _ => m.length - (intOf x).toNat)
 case atStart => exact ⟨0, Nat.zero_le _, rfl, Below.refl _ _⟩
 case round =>
  obtain ⟨i, hi, rfl, hb⟩ := hrel
  by_cases hlt : i < m.length
  · have k0 := HA.out _ hb i hlt
    have k1 := HB.out _ hb i hlt
    generalize m[i] = e at k0 k1
    go_wp2_with fail
    go_quiet (fail)
    go_wp2_with fail
    go_roundw
    case rel => exact ⟨i + 1, by omega, by go_num, below_drewN hb _⟩
    case measure => simp [intOf]; omega
  · obtain rfl : i = m.length := by omega
    go_wp2_with fail
    go_ret
    exact ⟨rfl, hb⟩
end Go.Proofs.YtlapjkbefkmohaaGreat
