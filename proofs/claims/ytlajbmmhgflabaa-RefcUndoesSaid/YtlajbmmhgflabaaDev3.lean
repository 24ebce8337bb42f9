/- Package dev: new devices, what is written, flushed, crashed. -/
import Derived.Test.YtlajbmmhgflabaaDev2
set_option linter.unusedVariables false
namespace Go.Proofs.Ytlajbmmhgflabaa
open Go.RowKit Go.Shelf
attribute [local go_sem] bs_mk bs_append bs_extract bs_size bs_toList bs_get

theorem repeat_one (x : UInt8) (n : Nat) : (⟨(Lib.repeatL (bs [x]).data.toList n).toArray⟩ : ByteArray) = bs (List.replicate n x) := by
  have : ∀ n, Lib.repeatL [x] n = List.replicate n x := by
    intro n
    induction n with
    | zero => rfl
    | succ n ih => simp [Lib.repeatL, ih, List.replicate_succ]
  show bs _ = _
  congr 1
  exact this n
theorem d_new_bad (n : Int) (h : n < 1 ∨ 1024 < n) (w : World) :
    Calls Try.prog 48 #[.int .i64 n] w fun e w' => RetDk (Dk.fresh n) e w' ∧ Below w.heap.size w w' := by
  have Hw := hid (show Dk.fresh n = (⟨[], [], 0, false, []⟩, 11) by simp [Dk.fresh, h])
  by_cases h0 : n < 1
  · clear h
    go_enter Try.func48, Try.ntmps48
    go_wp2_with fail
    rw [Hw.out]
    refine bodyPost_ret (v := .tuple #[dval ⟨[], [], 0, false, []⟩ ⟨none, 0⟩ ⟨none, 0⟩, .int .i64 11]) (by simp [results, Try.results48, go_sem]) rfl ?_
    exact ⟨⟨_, _, rfl, isDk_zero _⟩, (Below.refl _ _).alloc (Nat.le_refl _) _⟩
  · have h1 : 1024 < n := by omega
    clear h
    go_enter Try.func48, Try.ntmps48
    go_wp2_with fail
    rw [Hw.out]
    refine bodyPost_ret (v := .tuple #[dval ⟨[], [], 0, false, []⟩ ⟨none, 0⟩ ⟨none, 0⟩, .int .i64 11]) (by simp [results, Try.results48, go_sem]) rfl ?_
    exact ⟨⟨_, _, rfl, isDk_zero _⟩, (Below.refl _ _).alloc (Nat.le_refl _) _⟩
theorem d_new_ok (n : Nat) (h0 : 1 ≤ n) (h1 : n ≤ 1024) (w : World) :
    Calls Try.prog 48 #[.int .i64 n] w fun e w' => RetDk (Dk.fresh n) e w' ∧ Below w.heap.size w w' := by
  have Hw := hid (show Dk.fresh n = (⟨List.replicate (64 * n) 0, [], -1, false, []⟩, 0) by rw [Dk.fresh, if_neg (by omega)]; simp)
  have hrep := fun (W : World) => Try.strings_Repeat (bs [0]) (64 * n) W (by omega) (by simp [bs_size]; omega)
  simp only [repeat_one, show (((64 * n : Nat)) : Int) = 64 * (n : Int) by omega] at hrep
  go_enter Try.func48, Try.ntmps48
  go_wp2_with (go_at_call 71; refine (hrep _).mono ?_; rintro e w1 ⟨rfl, hb1⟩; have x1 := blk_new _ _ hb1; have y1 := blk5 x1; have f1 := x1.frozen)
  rw [Hw.out]
  have z1 := blk_set5 x1 (.string (bs (List.replicate (64 * n) 0))) (.slice none 0 0) (.int .i64 (-1)) (.bool false) (.slice none 0 0)
  have hb := below_set5 (bt ((Below.refl _ _).alloc (Nat.le_refl _) _) hb1) (g := w.heap.size) (Nat.le_refl _) (.string (bs (List.replicate (64 * n) 0))) (.slice none 0 0) (.int .i64 (-1)) (.bool false) (.slice none 0 0)
  have z2 := blk5 z1
  refine bodyPost_ret (v := .tuple #[dval ⟨List.replicate (64 * n) 0, [], -1, false, []⟩ ⟨none, 0⟩ ⟨none, 0⟩, .int .i64 0]) (by simp [results, Try.results48, go_sem, z2]) rfl ?_
  exact ⟨⟨_, _, rfl, isDk_new _ _ (by simp; omega)⟩, hb⟩
theorem d_new (n : Int) (w : World) :
    Calls Try.prog 48 #[.int .i64 n] w fun e w' => RetDk (Dk.fresh n) e w' ∧ Below w.heap.size w w' := by
  by_cases h : n < 1 ∨ 1024 < n
  · exact d_new_bad n h w
  · obtain ⟨k, rfl⟩ := Int.eq_ofNat_of_zero_le (show 0 ≤ n by omega)
    exact d_new_ok k (by omega) (by omega) w
/-- The call hands back a device and whether the power is still there. -/
def RetDb (D : Dk) (b : Bool) (p q : Pl) (e : Ending) (w : World) : Prop := e = .returned (.tuple #[dval D p q, .bool b])
end Go.Proofs.Ytlajbmmhgflabaa
