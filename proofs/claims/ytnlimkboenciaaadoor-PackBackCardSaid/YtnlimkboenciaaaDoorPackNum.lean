/- 'pack.Take', and the document's answers 'Put', 'Take', 'Pad'. -/
import Derived.Test.YtnlimkboenciaaaDoorPackWalks
import Derived.Lib.ConvBytes
set_option linter.unusedVariables false
namespace Go.Proofs.YtnlimkboenciaaaDoor
open Go.RowKit Go.Shelf
attribute [local go_sem] bs_mk bs_append bs_extract bs_size bs_toList bs_get

/-- The world behind '[]byte(s)'. -/
theorem bytesWorld_facts (w : World) (e : TypeId) (l : List UInt8) : Below w.heap.size w (Lib.bytesWorld w e (bs l)) ∧ (Lib.bytesWorld w e (bs l)).heap.size = w.heap.size + 1 ∧
    ∀ j (hj : j < l.length), (Lib.bytesWorld w e (bs l)).cell? ⟨w.heap.size, j, none⟩ = some (.int .u8 l[j].toNat) := by
  refine ⟨⟨rfl, rfl, rfl, by rw [Lib.bytesWorld_size]; omega, fun k hk => Lib.bytesWorld_at_old w e _ k hk⟩, Lib.bytesWorld_size w e _, fun j hj => ?_⟩
  rw [Lib.bytesWorld_cell w e (bs l) j (by rw [bs_size]; exact hj), bs_list]
  simp [hj]
def takeR (l : List UInt8) (k : Int) : Nat × List UInt8 × Int := if k < 1 ∨ 8 < k then (0, [], 25) else if (l.length : Int) < k then (0, [], 22) else (un (l.take k.toNat), l.drop k.toNat, 0)
def padR (l : List UInt8) (k : Int) : List UInt8 × Int := if k < l.length ∨ 65536 < k then ([], 11) else (l ++ List.replicate (k.toNat - l.length) 0, 0)
theorem un_bound (l : List UInt8) (k : Nat) (hk : k ≤ 8) : un (l.take k) < 256 ^ k := by
  refine Nat.lt_of_lt_of_le (un_lt _) (Nat.pow_le_pow_right (by omega) (by simp; omega))
theorem un_take_succ (l : List UInt8) (j : Nat) (h : j < l.length) : un (l.take (j + 1)) = un (l.take j) * 256 + l[j].toNat := by
  rw [List.take_succ_eq_append_getElem h, un_snoc]
theorem un_byte (l : List UInt8) (j : Nat) (hj : j < 8) : un (l.take j) < 72057594037927936 := by
  refine Nat.lt_of_lt_of_le (un_bound l j (by omega)) ?_
  refine Nat.le_trans (Nat.pow_le_pow_right (by omega) (show j ≤ 7 by omega)) (by omega)
theorem bits_or8 (a b : Nat) (ha : a < 72057594037927936) (hb : b < 256) : bits .or .u64 ((a : Int) * 256) (b : Int) = ((a * 256 + b : Nat) : Int) := by
  have e : (a : Int) * 256 = ((a * 256 : Nat) : Int) := by omega
  rw [e, u64_or_nat _ _ (by omega) (by omega)]
  have := Nat.two_pow_add_eq_or_of_lt (i := 8) (b := b) (by omega) a
  rw [Nat.mul_comm] at this
  simp only [Nat.reducePow] at this
  rw [← this]
theorem take_bad (l : List UInt8) (hl : l.length ≤ maxLen) (k : Int) (h : k < 1 ∨ 8 < k) (w : World) :
    Calls Tryd.prog 4 #[.string (bs l), .int .i64 k] w fun e w' => e = .returned (.tuple #[.int .u64 0, .string (bs []), .int .i64 25]) ∧ w = w' := by
  unfold maxLen at hl
  rcases h with h | h
  · go_enter Tryd.func4, Tryd.ntmps4
    go_wp2
    go_ret3
    exact ⟨rfl, rfl⟩
  · have h0 : ¬ k < 1 := by omega
    go_enter Tryd.func4, Tryd.ntmps4
    go_wp2
    go_ret3
    exact ⟨rfl, rfl⟩
theorem take_short (l : List UInt8) (hl : l.length ≤ maxLen) (k : Int) (h1 : 1 ≤ k) (h2 : k ≤ 8) (h : (l.length : Int) < k) (w : World) :
    Calls Tryd.prog 4 #[.string (bs l), .int .i64 k] w fun e w' => e = .returned (.tuple #[.int .u64 0, .string (bs []), .int .i64 22]) ∧ w = w' := by
  unfold maxLen at hl
  go_enter Tryd.func4, Tryd.ntmps4
  go_wp2
  go_ret3
  exact ⟨rfl, rfl⟩
set_option maxHeartbeats 400000 in
theorem take_ok (l : List UInt8) (hl : l.length ≤ maxLen) (k : Int) (h1 : 1 ≤ k) (h2 : k ≤ 8) (h : k ≤ (l.length : Int)) (w : World) :
    Calls Tryd.prog 4 #[.string (bs l), .int .i64 k] w fun e w' => e = .returned (.tuple #[.int .u64 (un (l.take k.toNat)), .string (bs (l.drop k.toNat)), .int .i64 0]) ∧ Below w.heap.size w w' := by
  unfold maxLen at hl
  obtain ⟨k, rfl⟩ := Int.eq_ofNat_of_zero_le (show 0 ≤ k by omega)
  rw [Int.toNat_natCast]
  have hcv := fun (W : World) => Lib.run_convert_string_bytes (P := Tryd.prog) W 9 31 5 (bs (l.take k)) Tryd.underlying9 Tryd.underlying31 Tryd.underlying5
  simp only [bs_size, List.length_take, Nat.min_eq_left (show k ≤ l.length by omega)] at hcv
  obtain ⟨hb1, hsz, hcell⟩ := bytesWorld_facts w 5 (l.take k)
  have Hcell := hid hcell; clear hcell
  have Hsz := hid hsz; clear hsz
  go_enter Tryd.func4, Tryd.ntmps4
  go_wp2_with fail
  generalize Lib.bytesWorld w 5 (bs (l.take k)) = w1 at *
  clear hcv
  go_loop [7, 27] (fun n i => ∃ j : Nat, j ≤ k ∧ i = .int .i64 j ∧ n = .int .u64 (un (l.take j))) (fun _ i => k - (intOf i).toNat)
  case atStart => exact ⟨0, by omega, rfl, rfl⟩
  case round =>
    obtain ⟨j, hj, rfl, rfl⟩ := hrel
    by_cases hlt : j < k
    · have hc := Hcell.out j (by simp; omega)
      simp only [List.getElem_take] at hc
      have hu := un_byte l j (by omega)
      have hby := (l[j]'(by omega)).toNat_lt
      have Hun := hid (un_take_succ l j (by omega))
      go_wp2_with fail
      go_round
      case rel => exact ⟨j + 1, by omega, by go_num, by rw [Hun.out, bits_or8 _ _ hu hby]⟩
      case measure => simp [intOf]; omega
    · obtain rfl : j = k := by omega
      go_wp2_with fail
      go_quiet (fail)
      go_wp2
      go_ret3
      exact ⟨rfl, below_drewN hb1 _⟩
theorem take_any (l : List UInt8) (hl : l.length ≤ maxLen) (k : Int) (w : World) :
    Calls Tryd.prog 4 #[.string (bs l), .int .i64 k] w fun e w' => e = .returned (.tuple #[.int .u64 (takeR l k).1, .string (bs (takeR l k).2.1), .int .i64 (takeR l k).2.2]) ∧ Below w.heap.size w w' := by
  by_cases h : k < 1 ∨ 8 < k
  · refine (take_bad l hl k h w).mono ?_
    rintro e w' ⟨rfl, rfl⟩
    exact ⟨by rw [takeR, if_pos h]; rfl, Below.refl _ _⟩
  · by_cases h2 : (l.length : Int) < k
    · refine (take_short l hl k (by omega) (by omega) h2 w).mono ?_
      rintro e w' ⟨rfl, rfl⟩
      exact ⟨by rw [takeR, if_neg h, if_pos h2]; rfl, Below.refl _ _⟩
    · refine (take_ok l hl k (by omega) (by omega) (by omega) w).mono ?_
      rintro e w' ⟨rfl, hb⟩
      exact ⟨by rw [takeR, if_neg h, if_neg h2], hb⟩
theorem pad_any (l : List UInt8) (hl : l.length ≤ maxLen) (k : Int) (w : World) :
    Calls Tryd.prog 11 #[.string (bs l), .int .i64 k] w fun e w' => e = .returned (.tuple #[.string (bs (padR l k).1), .int .i64 (padR l k).2]) ∧ Below w.heap.size w w' := by
  by_cases h : k < l.length ∨ 65536 < k
  · refine (pad_bad l hl k h w).mono ?_
    rintro e w' ⟨rfl, rfl⟩
    exact ⟨by rw [padR, if_pos h], Below.refl _ _⟩
  · refine (pad_ok l hl k (by omega) (by omega) w).mono ?_
    rintro e w' ⟨rfl, hb⟩
    exact ⟨by rw [padR, if_neg h], hb⟩
end Go.Proofs.YtnlimkboenciaaaDoor
