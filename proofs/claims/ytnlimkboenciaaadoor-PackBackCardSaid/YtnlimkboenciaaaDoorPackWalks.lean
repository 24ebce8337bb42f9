/- Package pack, function by function: what each hands back; nothing that lay in memory has turned. -/
import Derived.Test.YtnlimkboenciaaaDoorPackPut
import Derived.Test.YtnlimkboenciaaaDoorShelf
set_option linter.unusedVariables false
namespace Go.Proofs.YtnlimkboenciaaaDoor
open Go.RowKit Go.Shelf
attribute [local go_sem] bs_mk bs_append bs_extract bs_size bs_toList bs_get

theorem put_bad (x size : Int) (w : World) (h : size < 1 ∨ 8 < size) :
    Calls Tryd.prog 5 #[.int .u64 x, .int .i64 size] w fun e w' => e = .returned (.string (bs [])) ∧ Below w.heap.size w w' := by
  rcases h with h | h
  · go_enter Tryd.func5, Tryd.ntmps5
    go_wp2
    go_ret
    exact ⟨rfl, (Below.refl _ _).alloc (Nat.le_refl _) _⟩
  · by_cases h0 : size < 1
    · omega
    · go_enter Tryd.func5, Tryd.ntmps5
      go_wp2
      go_ret
      exact ⟨rfl, (Below.refl _ _).alloc (Nat.le_refl _) _⟩
theorem put_ok (x size : Nat) (hx : x < 18446744073709551616) (hs : 1 ≤ size) (hs8 : size ≤ 8) (w : World) :
    Calls Tryd.prog 5 #[.int .u64 x, .int .i64 size] w fun e w' => e = .returned (.string (bs (be size x))) ∧ Below w.heap.size w w' :=
  (callsIn_wide (n := 3)).1 ((put_in .wide 3 trivial trivial trivial rfl (by omega) x size hx hs hs8 w).mono fun e w' ⟨⟨ys, hy, he⟩, hb⟩ => ⟨by rw [he, putSt_done _ _ _ hy]; rfl, hb⟩)
def putS (x : Nat) (size : Int) : List UInt8 := if 1 ≤ size ∧ size ≤ 8 then be size.toNat x else []
theorem put_any (x size : Int) (h0 : 0 ≤ x) (hx : x < 18446744073709551616) (w : World) :
    Calls Tryd.prog 5 #[.int .u64 x, .int .i64 size] w fun e w' => e = .returned (.string (bs (putS x.toNat size))) ∧ Below w.heap.size w w' := by
  obtain ⟨x, rfl⟩ := Int.eq_ofNat_of_zero_le h0
  by_cases h : 1 ≤ size ∧ size ≤ 8
  · obtain ⟨k, rfl⟩ := Int.eq_ofNat_of_zero_le (show 0 ≤ size by omega)
    refine (put_ok x k (by omega) (by omega) (by omega) w).mono ?_
    rintro e w' ⟨rfl, hb⟩
    exact ⟨by rw [putS, if_pos h]; simp, hb⟩
  · refine (put_bad x size w (by omega)).mono ?_
    rintro e w' ⟨rfl, hb⟩
    exact ⟨by rw [putS, if_neg h], hb⟩
theorem over_bad (s t : List UInt8) (k : Int) (w : World) (hs : s.length ≤ maxLen) (ht : t.length ≤ maxLen) (h : k < 0 ∨ (s.length : Int) - t.length < k) :
    Calls Tryd.prog 13 #[.string (bs s), .int .i64 k, .string (bs t)] w fun e w' => e = .returned (.tuple #[.string (bs []), .int .i64 10]) ∧ w = w' := by
  unfold maxLen at hs ht
  rcases h with h | h
  · go_enter Tryd.func13, Tryd.ntmps13
    go_wp2
    go_ret2
    exact ⟨rfl, rfl⟩
  · by_cases h0 : k < 0
    · go_enter Tryd.func13, Tryd.ntmps13
      go_wp2
      go_ret2
      exact ⟨rfl, rfl⟩
    · go_enter Tryd.func13, Tryd.ntmps13
      go_wp2
      go_ret2
      exact ⟨rfl, rfl⟩
theorem over_ok (s t : List UInt8) (k : Int) (w : World) (hs : s.length ≤ maxLen) (ht : t.length ≤ maxLen) (h0 : 0 ≤ k) (h : k ≤ (s.length : Int) - t.length) :
    Calls Tryd.prog 13 #[.string (bs s), .int .i64 k, .string (bs t)] w fun e w' => e = .returned (.tuple #[.string (bs (over s k.toNat t)), .int .i64 0]) ∧ Below w.heap.size w w' := by
  unfold maxLen at hs ht
  obtain ⟨n, rfl⟩ := Int.eq_ofNat_of_zero_le h0
  go_enter Tryd.func13, Tryd.ntmps13
  go_wp2
  go_quiet (fail)
  go_wp2
  go_ret2
  exact ⟨by simp [over], drewN_below _ _⟩
theorem badRune_at (w : World) : PredAt Tryd.prog 16 #[] encR badRune w := fun W r _ => by
  unfold FnGives
  by_cases h1 : (r : Int) < 33
  · have h2 : badRune r = true := by simp [badRune]; omega
    go_enter Tryd.func16, Tryd.ntmps16
    go_wp2
    go_ret
    exact ⟨by first | rfl | (rw [h2]; rfl), 0, rfl⟩
  · by_cases h3 : (126 : Int) < r
    · have h2 : badRune r = true := by simp [badRune]; omega
      go_enter Tryd.func16, Tryd.ntmps16
      go_wp2
      go_ret
      exact ⟨by first | rfl | (rw [h2]; rfl), 0, rfl⟩
    · have h2 : badRune r = false := by simp [badRune]; omega
      go_enter Tryd.func16, Tryd.ntmps16
      go_wp2
      go_ret
      exact ⟨by first | rfl | (rw [h2]; rfl), 0, rfl⟩
theorem named_any (l : List UInt8) (hl : l.length ≤ maxLen) (w : World) :
    Calls Tryd.prog 10 #[.string (bs l)] w fun e w' => e = .returned (.bool (nameOk l)) ∧ Below w.heap.size w w' := by
  unfold maxLen at hl
  by_cases h1 : l = []
  · subst h1
    have hk : nameOk [] = false := rfl
    go_enter Tryd.func10, Tryd.ntmps10
    go_wp2
    go_ret
    exact ⟨rfl, Below.refl _ _⟩
  · have h1' : l.isEmpty = false := by simpa using h1
    by_cases h2 : l.length ≤ 8
    · have h2' : decide ((l.length : Int) ≤ 8) = true := by simp; omega
      go_enter Tryd.func10, Tryd.ntmps10
      go_wp2_with (go_at_call 15; refine (Tryd.strings_IndexFunc 16 #[] (enters_of Tryd.func16 (by kernel_rfl) rfl) badRune _ _ (badRune_at _)).mono ?_; rintro e w' ⟨rfl, hb⟩)
      go_ret
      refine ⟨?_, hb⟩
      have hidx := idx_all l
      refine congrArg (fun b => Ending.returned (.bool b)) ?_
      simp only [nameOk, h1', Bool.not_false, Bool.true_and, h2, decide_true]
      rw [Bool.eq_iff_iff]
      simpa using hidx
    · have h2' : decide ((l.length : Int) ≤ 8) = false := by simp; omega
      have hk : nameOk l = false := by simp [nameOk, h2]
      go_enter Tryd.func10, Tryd.ntmps10
      go_wp2
      go_ret
      exact ⟨by rw [hk]; rfl, Below.refl _ _⟩
theorem repeat0 (c : Nat) : Lib.repeatL [0] c = List.replicate c 0 := by
  induction c with
  | zero => simp [Lib.repeatL]
  | succ c ih => simp [Lib.repeatL, ih, List.replicate_succ]
theorem pad_bad (l : List UInt8) (hl : l.length ≤ maxLen) (k : Int) (h : k < l.length ∨ 65536 < k) (w : World) :
    Calls Tryd.prog 11 #[.string (bs l), .int .i64 k] w fun e w' => e = .returned (.tuple #[.string (bs []), .int .i64 11]) ∧ w = w' := by
  unfold maxLen at hl
  rcases h with h | h
  · go_enter Tryd.func11, Tryd.ntmps11
    go_wp2
    go_ret2
    exact ⟨rfl, rfl⟩
  · by_cases h0 : k < l.length
    · go_enter Tryd.func11, Tryd.ntmps11
      go_wp2
      go_ret2
      exact ⟨rfl, rfl⟩
    · go_enter Tryd.func11, Tryd.ntmps11
      go_wp2
      go_ret2
      exact ⟨rfl, rfl⟩
theorem pad_ok (l : List UInt8) (hl : l.length ≤ maxLen) (k : Int) (h : (l.length : Int) ≤ k) (h2 : k ≤ 65536) (w : World) :
    Calls Tryd.prog 11 #[.string (bs l), .int .i64 k] w fun e w' => e = .returned (.tuple #[.string (bs (l ++ List.replicate (k.toNat - l.length) 0)), .int .i64 0]) ∧ Below w.heap.size w w' := by
  unfold maxLen at hl
  obtain ⟨k, rfl⟩ := Int.eq_ofNat_of_zero_le (show 0 ≤ k by omega)
  have hrep := fun W => Tryd.strings_Repeat (bs [0]) (k - l.length) W (by omega) (by rw [bs_size]; simp; omega)
  rw [show ((k - l.length : Nat) : Int) = (k : Int) - l.length by omega, bs_list, repeat0, bs_mk] at hrep
  go_enter Tryd.func11, Tryd.ntmps11
  go_wp2_with (go_at_call 17; refine (hrep _).mono ?_; rintro e w' ⟨rfl, hb⟩)
  go_ret2
  refine ⟨?_, hb⟩
  simp
theorem name_ok (l : List UInt8) (h : nameOk l = true) (w : World) :
    Calls Tryd.prog 6 #[.string (bs l)] w fun e w' => e = .returned (.tuple #[.string (bs (l ++ List.replicate (8 - l.length) 0)), .int .i64 0]) ∧ Below w.heap.size w w' := by
  have hl : l.length ≤ 8 := by simp [nameOk] at h; exact h.1.2
  have hm : l.length ≤ maxLen := by unfold maxLen; omega
  go_enter Tryd.func6, Tryd.ntmps6
  go_wp2_with (first | (go_at_call 10; refine (named_any l hm _).mono ?_; rintro e w' ⟨rfl, hb⟩; rw [h]) | (go_at_call 11; refine (pad_ok l hm 8 (by omega) (by omega) _).mono ?_; rintro e w2 ⟨rfl, hb2⟩))
  go_ret2
  exact ⟨rfl, bt hb hb2⟩
theorem name_bad (l : List UInt8) (hm : l.length ≤ maxLen) (h : nameOk l = false) (w : World) :
    Calls Tryd.prog 6 #[.string (bs l)] w fun e w' => e = .returned (.tuple #[.string (bs []), .int .i64 19]) ∧ Below w.heap.size w w' := by
  go_enter Tryd.func6, Tryd.ntmps6
  go_wp2_with (go_at_call 10; refine (named_any l hm _).mono ?_; rintro e w' ⟨rfl, hb⟩; rw [h])
  go_ret2
  exact ⟨rfl, hb⟩
end Go.Proofs.YtnlimkboenciaaaDoor
