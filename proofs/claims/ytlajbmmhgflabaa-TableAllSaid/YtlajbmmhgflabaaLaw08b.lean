/- Package cofferdamlaw08: rows of numbers held against each other. -/
import Derived.Test.YtlajbmmhgflabaaLaw08a
import Derived.Test.YtlajbmmhgflabaaRefc4
set_option linter.unusedVariables false
namespace Go.Proofs.Ytlajbmmhgflabaa
open Go.RowKit Go.Shelf
attribute [local go_sem] bs_mk bs_append bs_extract bs_size bs_toList bs_get
/-- A cell's content, as a fact that the walk does not use. -/
structure CellIs (w : World) (a : Addr) (v : Value) : Prop where
  out : w.cell? a = some v
theorem CellIs.below {w w' : World} {a : Addr} {v : Value} (h : CellIs w a v) (hb : Below w.heap.size w w') : CellIs w' a v := ⟨cell_below hb h.out⟩
set_option maxRecDepth 100000 in
theorem ints08 (l : List Int) (A B : Option Addr) (c d : Nat) (w : World) (hA : Cells w A (intCells l)) (hB : Cells w B (intCells l)) (hl : l.length ≤ 1000000) :
    Calls Try.prog 22 #[.slice A l.length c, .slice B l.length d] w fun e w' => e = .returned (.bool true) ∧ Below w.heap.size w w' := by
  cases l with
  | nil =>
    go_enter Try.func22, Try.ntmps22
    go_wp2_with fail
    go_loopw [13] (fun x W => x = .int .i64 0 ∧ Below w.heap.size w W) (fun x _ => 0)
    case atStart => exact ⟨rfl, Below.refl _ _⟩
    case round =>
      obtain ⟨rfl, hb⟩ := hrel
      go_wp2_with fail
      go_ret
      exact ⟨rfl, hb⟩
  | cons v l =>
  obtain ⟨pa, oa, rfl, ha⟩ := hA.int (i := 0) (by simp)
  obtain ⟨pb, ob, rfl, hb⟩ := hB.int (i := 0) (by simp)
  generalize hm : v :: l = m at *
  have HA := hid (fun (W : World) (hb : Below w.heap.size w W) (j : Nat) (hj : j < m.length) => cell_below hb (ha j hj))
  have HB := hid (fun (W : World) (hbl : Below w.heap.size w W) (j : Nat) (hj : j < m.length) => cell_below hbl (hb j hj))
  clear hA hB ha hb hm
  go_enter Try.func22, Try.ntmps22
  go_wp2_with fail
  go_loopw [13] (fun x W => ∃ i : Nat, i ≤ m.length ∧ x = .int .i64 i ∧ Below w.heap.size w W) (fun x _ => m.length - (intOf x).toNat)
  case atStart => exact ⟨0, Nat.zero_le _, rfl, Below.refl _ _⟩
  case round =>
    obtain ⟨i, hi, rfl, hb⟩ := hrel
    by_cases hlt : i < m.length
    · have k0 := HA.out _ hb i hlt
      have k1 := HB.out _ hb i hlt
      go_wp2_with fail
      go_quiet (fail)
      go_wp2_with fail
      go_roundw
      case rel => exact ⟨i + 1, by omega, by go_num, below_drewN hb _⟩
      case measure => simp [intOf]; omega
    · obtain rfl : i = m.length := by omega
      go_wp2_with fail
      go_ret
      exact ⟨rfl, hb⟩
end Go.Proofs.Ytlajbmmhgflabaa
