/- 'slices.Backward' over bytes, and 'pack.Put': a number as bytes, the highest first. Package pack, function by function: what each hands back; nothing that lay in memory has turned. 'pack.Take', and the document's answers 'Put', 'Take', 'Pad'. -/
import Derived.Test.YtlapjkbefkmohaaGreatSdPackLaw
import Derived.Test.YtlapjkbefkmohaaGreatRows
import Derived.Test.YtlapjkbefkmohaaGreatShelf
import Derived.Lib.ConvBytes
set_option linter.unusedVariables false
namespace Go.Proofs.YtlapjkbefkmohaaGreat
open Go.RowKit Go.Shelf
attribute [local go_sem] Oper.semAt_some

/-- The slice's cells are bytes. -/
def BytesIn (g off len : Nat) (W : World) : Prop := ∀ j, j < len → ∃ v : UInt8, W.cell? ⟨g, off + j, none⟩ = some (.int .u8 v.toNat)
/-- What a round keeps. -/
def BackK (Bs : Nat) (sv : Value) (g off len : Nat) (W W' : World) : Prop :=
 (W.cell? ⟨Bs, 0, none⟩ = some sv → W'.cell? ⟨Bs, 0, none⟩ = some sv) ∧ (BytesIn g off len W → BytesIn g off len W')
theorem BackK.t {Bs : Nat} {sv : Value} {g off len : Nat} {A B C : World} (h : BackK Bs sv g off len A B) (k : BackK Bs sv g off len B C) : BackK Bs sv g off len A C :=
 ⟨fun x => k.1 (h.1 x), fun x => k.2 (h.2 x)⟩
theorem BackK.b {Bs : Nat} {sv : Value} {g off len : Nat} {w : World} (W : World) (l : Nat) (o o' : Obj) (_ : w.heap.size ≤ l) (h : W.heap[l]? = some o) (hc : o.isCells = false) (_ : o.isWalk = false) : BackK Bs sv g off len W (W.putObj l o') :=
 ⟨fun x => cell_kept x (grownBy_putObj' W l o') (fun r e => by cases e; exact ⟨_, h, hc⟩),
  fun x j hj => by obtain ⟨v, hv⟩ := x j hj; exact ⟨v, cell_kept hv (grownBy_putObj' W l o') (fun r e => by cases e; exact ⟨_, h, hc⟩)⟩⟩
theorem Tryz.infoByte : (Tryz.prog.info? 5).map (fun i => (i.zero, i.size, i.bytes)) = some (some (.int .u8 0), 1, 1) := by kernel_rfl
end Go.Proofs.YtlapjkbefkmohaaGreat
set_option linter.unusedVariables false
namespace Go.Proofs.YtlapjkbefkmohaaGreat
open Go.RowKit Go.Shelf
attribute [local go_sem] bs_mk bs_append bs_extract bs_size bs_toList bs_get

def putS (x : Nat) (size : Int) : List UInt8 := if 1 ≤ size ∧ size ≤ 8 then be size.toNat x else []
end Go.Proofs.YtlapjkbefkmohaaGreat
set_option linter.unusedVariables false
namespace Go.Proofs.YtlapjkbefkmohaaGreat
open Go.RowKit Go.Shelf
attribute [local go_sem] bs_mk bs_append bs_extract bs_size bs_toList bs_get

/-- The world behind '[]byte(s)'. -/
theorem bytesWorld_facts (w : World) (e : TypeId) (l : List UInt8) : Below w.heap.size w (Lib.bytesWorld w e (bs l)) ∧ (Lib.bytesWorld w e (bs l)).heap.size = w.heap.size + 1 ∧
 ∀ j (hj : j < l.length), (Lib.bytesWorld w e (bs l)).cell? ⟨w.heap.size, j, none⟩ = some (.int .u8 l[j].toNat) := by
 refine ⟨⟨rfl, rfl, rfl, by rw [Lib.bytesWorld_size]; omega, fun k hk => Lib.bytesWorld_at_old w e _ k hk⟩, Lib.bytesWorld_size w e _, fun j hj => ?_⟩
 rw [Lib.bytesWorld_cell w e (bs l) j (by rw [bs_size]; exact hj), bs_list]
 simp [hj]
def takeR (l : List UInt8) (k : Int) : Nat × List UInt8 × Int := if k < 1 ∨ 8 < k then (0, [], 25) else if (l.length : Int) < k then (0, [], 22) else (un (l.take k.toNat), l.drop k.toNat, 0)
def padR (l : List UInt8) (k : Int) : List UInt8 × Int := if k < l.length ∨ 65536 < k then ([], 11) else (l ++ List.replicate (k.toNat - l.length) 0, 0)
theorem un_bound (l : List UInt8) (k : Nat) (hk : k ≤ 8) : un (l.take k) < 256 ^ k := by
 refine Nat.lt_of_lt_of_le (un_lt _) (Nat.pow_le_pow_right (by omega) (by simp; omega))
theorem un_take_succ (l : List UInt8) (j : Nat) (h : j < l.length) : un (l.take (j + 1)) = un (l.take j) * 256 + l[j].toNat := by
 rw [List.take_succ_eq_append_getElem h, un_snoc]
theorem un_byte (l : List UInt8) (j : Nat) (hj : j < 8) : un (l.take j) < 72057594037927936 := by
 refine Nat.lt_of_lt_of_le (un_bound l j (by omega)) ?_
 refine Nat.le_trans (Nat.pow_le_pow_right (by omega) (show j ≤ 7 by omega)) (by omega)
theorem bits_or8 (a b : Nat) (ha : a < 72057594037927936) (hb : b < 256) : bits .or .u64 ((a : Int) * 256) (b : Int) = ((a * 256 + b : Nat) : Int) := by
 have e : (a : Int) * 256 = ((a * 256 : Nat) : Int) := by omega
 rw [e, u64_or_nat _ _ (by omega) (by omega)]
 have := Nat.two_pow_add_eq_or_of_lt (i := 8) (b := b) (by omega) a
 rw [Nat.mul_comm] at this
 simp only [Nat.reducePow] at this
 rw [← this]
theorem take_bad (l : List UInt8) (hl : l.length ≤ maxLen) (k : Int) (h : k < 1 ∨ 8 < k) (w : World) :
 Calls Tryz.prog 121 #[.string (bs l), .int .i64 k] w fun e w' => e = .returned (.tuple #[.int .u64 0, .string (bs []), .int .i64 25]) ∧ w = w' := by
 unfold maxLen at hl
 rcases h with h | h
 · go_enter Tryz.func121, Tryz.ntmps121
   go_wp2
   go_ret3
   exact ⟨rfl, rfl⟩
 · have h0 : ¬ k < 1 := by omega
   go_enter Tryz.func121, Tryz.ntmps121
   go_wp2
   go_ret3
   exact ⟨rfl, rfl⟩
theorem take_short (l : List UInt8) (hl : l.length ≤ maxLen) (k : Int) (h1 : 1 ≤ k) (h2 : k ≤ 8) (h : (l.length : Int) < k) (w : World) :
 Calls Tryz.prog 121 #[.string (bs l), .int .i64 k] w fun e w' => e = .returned (.tuple #[.int .u64 0, .string (bs []), .int .i64 22]) ∧ w = w' := by
 unfold maxLen at hl
 go_enter Tryz.func121, Tryz.ntmps121
 go_wp2
 go_ret3
 exact ⟨rfl, rfl⟩
set_option maxHeartbeats 400000 in
theorem take_ok (l : List UInt8) (hl : l.length ≤ maxLen) (k : Int) (h1 : 1 ≤ k) (h2 : k ≤ 8) (h : k ≤ (l.length : Int)) (w : World) :
 Calls Tryz.prog 121 #[.string (bs l), .int .i64 k] w fun e w' => e = .returned (.tuple #[.int .u64 (un (l.take k.toNat)), .string (bs (l.drop k.toNat)), .int .i64 0]) ∧ Below w.heap.size w w' := by
 unfold maxLen at hl
 obtain ⟨k, rfl⟩ := Int.eq_ofNat_of_zero_le (show 0 ≤ k by omega)
 rw [Int.toNat_natCast]
 have hcv := fun (W : World) => Lib.run_convert_string_bytes (P := Tryz.prog) W 9 77 5 (bs (l.take k)) Tryz.underlying9 Tryz.underlying77 Tryz.underlying5
 simp only [bs_size, List.length_take, Nat.min_eq_left (show k ≤ l.length by omega)] at hcv
 obtain ⟨hb1, hsz, hcell⟩ := bytesWorld_facts w 5 (l.take k)
 have Hcell := hid hcell; clear hcell
 have Hsz := hid hsz; clear hsz
 go_enter Tryz.func121, Tryz.ntmps121
 go_wp2_with fail
 generalize Lib.bytesWorld w 5 (bs (l.take k)) = w1 at *
 clear hcv
 go_loop [7, 27] (fun n i => ∃ j : Nat, j ≤ k ∧ i = .int .i64 j ∧ n = .int .u64 (un (l.take j))) (fun _ i => k - (intOf i).toNat)
 case atStart => exact ⟨0, by omega, rfl, rfl⟩
 case round =>
  obtain ⟨j, hj, rfl, rfl⟩ := hrel
  by_cases hlt : j < k
  · have hc := Hcell.out j (by simp; omega)
    simp only [List.getElem_take] at hc
    have hu := un_byte l j (by omega)
    have hby := (l[j]'(by omega)).toNat_lt
    have Hun := hid (un_take_succ l j (by omega))
    go_wp2_with fail
    go_round
    case rel => exact ⟨j + 1, by omega, by go_num, by rw [Hun.out, bits_or8 _ _ hu hby]⟩
    case measure => simp [intOf]; omega
  · obtain rfl : j = k := by omega
    go_wp2_with fail
    go_quiet (fail)
    go_wp2
    go_ret3
    exact ⟨rfl, below_drewN hb1 _⟩
theorem rtake_bad (l : List UInt8) (hl : l.length ≤ maxLen) (k : Int) (h : k < 1 ∨ 8 < k) (w : World) :
 Calls Tryz.prog 58 #[.string (bs l), .int .i64 k] w fun e w' => e = .returned (.tuple #[.int .u64 0, .string (bs []), .int .i64 25]) ∧ w = w' := by
 unfold maxLen at hl
 rcases h with h | h
 · go_enter Tryz.func58, Tryz.ntmps58
   go_wp2
   go_ret3
   exact ⟨rfl, rfl⟩
 · have h0 : ¬ k < 1 := by omega
   go_enter Tryz.func58, Tryz.ntmps58
   go_wp2
   go_ret3
   exact ⟨rfl, rfl⟩
theorem rtake_short (l : List UInt8) (hl : l.length ≤ maxLen) (k : Int) (h1 : 1 ≤ k) (h2 : k ≤ 8) (h : (l.length : Int) < k) (w : World) :
 Calls Tryz.prog 58 #[.string (bs l), .int .i64 k] w fun e w' => e = .returned (.tuple #[.int .u64 0, .string (bs []), .int .i64 22]) ∧ w = w' := by
 unfold maxLen at hl
 go_enter Tryz.func58, Tryz.ntmps58
 go_wp2
 go_ret3
 exact ⟨rfl, rfl⟩
set_option maxHeartbeats 400000 in
theorem rtake_ok (l : List UInt8) (hl : l.length ≤ maxLen) (k : Int) (h1 : 1 ≤ k) (h2 : k ≤ 8) (h : k ≤ (l.length : Int)) (w : World) :
 Calls Tryz.prog 58 #[.string (bs l), .int .i64 k] w fun e w' => e = .returned (.tuple #[.int .u64 (un (l.take k.toNat)), .string (bs (l.drop k.toNat)), .int .i64 0]) ∧ Below w.heap.size w w' := by
 unfold maxLen at hl
 obtain ⟨k, rfl⟩ := Int.eq_ofNat_of_zero_le (show 0 ≤ k by omega)
 rw [Int.toNat_natCast]
 go_enter Tryz.func58, Tryz.ntmps58
 go_wp2_with fail
 go_loop [7, 8] (fun n i => ∃ j : Nat, j ≤ k ∧ i = .int .i64 j ∧ n = .int .u64 (un (l.take j))) (fun _ i => k - (intOf i).toNat)
 case atStart => exact ⟨0, by omega, rfl, rfl⟩
 case round =>
  obtain ⟨j, hj, rfl, rfl⟩ := hrel
  by_cases hlt : j < k
  · have hu := un_byte l j (by omega)
    have hjl : j < l.length := by omega
    have hby := (l[j]'(by omega)).toNat_lt
    have Hun := hid (un_take_succ l j (by omega))
    go_wp2_with fail
    go_round
    case rel => exact ⟨j + 1, by omega, by go_num, by rw [Hun.out]; go_num⟩
    case measure => simp [intOf]; omega
  · obtain rfl : j = k := by omega
    go_wp2_with fail
    try go_quiet (fail)
    go_wp2
    go_ret3
    exact ⟨by simp, drewN_below _ _⟩
theorem rpad_bad (l : List UInt8) (hl : l.length ≤ maxLen) (k : Int) (h : k < l.length ∨ 65536 < k) (w : World) :
 Calls Tryz.prog 75 #[.string (bs l), .int .i64 k] w fun e w' => e = .returned (.tuple #[.string (bs []), .int .i64 11]) ∧ w = w' := by
 unfold maxLen at hl
 rcases h with h | h
 · go_enter Tryz.func75, Tryz.ntmps75
   go_wp2
   go_ret2
   exact ⟨rfl, rfl⟩
 · by_cases h0 : k < l.length
   · go_enter Tryz.func75, Tryz.ntmps75
     go_wp2
     go_ret2
     exact ⟨rfl, rfl⟩
   · go_enter Tryz.func75, Tryz.ntmps75
     go_wp2
     go_ret2
     exact ⟨rfl, rfl⟩
set_option maxRecDepth 100000 in
theorem rpad_ok (l : List UInt8) (hl : l.length ≤ maxLen) (k : Int) (h : (l.length : Int) ≤ k) (h2 : k ≤ 65536) (w : World) :
 Calls Tryz.prog 75 #[.string (bs l), .int .i64 k] w fun e w' => e = .returned (.tuple #[.string (bs (l ++ List.replicate (k.toNat - l.length) 0)), .int .i64 0]) ∧ Below w.heap.size w w' := by
 unfold maxLen at hl
 obtain ⟨k, rfl⟩ := Int.eq_ofNat_of_zero_le (show 0 ≤ k by omega)
 rw [Int.toNat_natCast]
 obtain ⟨i0, hi, hz0, hz1, hz2⟩ := info_parts Tryz.infoByte
 have hmk := fun W => run_make_rowN (P := Tryz.prog) 77 5 i0 (.int .u8 0) Tryz.underlying77 hi hz0 .i64 .i64 (k - l.length) (k - l.length) (Nat.le_refl _) (by rw [hz2]; omega) (by omega) W
 rw [hz1, Nat.mul_one, show ((k - l.length : Nat) : Int) = (k : Int) - l.length by omega] at hmk
 have hcv := run_convert_bytes_back (P := Tryz.prog) (w.alloc (.cells (madeCells #[.int .u8 0] (k - l.length)) 5)) 77 9 5 ⟨w.heap.size, 0, none⟩ (k - l.length) (List.replicate (k - l.length) 0) Tryz.underlying77 Tryz.underlying5 Tryz.underlying9 (fun j hj => by
  have hj' : j < k - l.length := by simpa using hj
  have e : (Addr.add ⟨w.heap.size, 0, none⟩ j) = ⟨w.heap.size, j, none⟩ := by simp only [Addr.add]; split <;> simp_all
  rw [e, (Blk.new w _ _).cell j, ← Array.getElem?_toList, toList_madeCells_one]; simp [hj'])
 rw [List.length_replicate, bs_mk] at hcv
 go_enter Tryz.func75, Tryz.ntmps75
 go_wp2_with fail
 try go_quiet (fail)
 try go_wp2
 go_ret2
 exact ⟨by simp, (Below.refl _ _).alloc (Nat.le_refl _) _⟩
theorem rput_bad (x size : Int) (w : World) (h : size < 1 ∨ 8 < size) :
 Calls Tryz.prog 74 #[.int .u64 x, .int .i64 size] w fun e w' => e = .returned (.string (bs [])) ∧ w = w' := by
 rcases h with h | h
 · go_enter Tryz.func74, Tryz.ntmps74
   go_wp2
   go_ret
   exact ⟨rfl, rfl⟩
 · have h0 : ¬ size < 1 := by omega
   go_enter Tryz.func74, Tryz.ntmps74
   go_wp2
   go_ret
   exact ⟨rfl, rfl⟩
set_option maxRecDepth 100000 in
theorem rput_ok (x k : Nat) (hx : x < 18446744073709551616) (h1 : 1 ≤ k) (h2 : k ≤ 8) (w : World) :
 Calls Tryz.prog 74 #[.int .u64 x, .int .i64 k] w fun e w' => e = .returned (.string (bs (be k x))) ∧ Below w.heap.size w w' := by
 obtain ⟨i0, hi, hz0, hz1, hz2⟩ := info_parts Tryz.infoByte
 have hmk := fun W => run_make_rowN (P := Tryz.prog) 77 5 i0 (.int .u8 0) Tryz.underlying77 hi hz0 .i64 .i64 k k (Nat.le_refl _) (by rw [hz2]; omega) (by omega) W
 rw [hz1, Nat.mul_one] at hmk
 go_enter Tryz.func74, Tryz.ntmps74
 go_wp2_with fail
 have b1 := Blk.new w 5 (madeCells #[.int .u8 0] k)
 have hB0 := (Below.refl w.heap.size w).alloc (Nat.le_refl _) (.cells (madeCells #[.int .u8 0] k) 5)
 have hmade : madeCells #[.int .u8 0] k = byteCells (List.replicate k 0) := by
  apply Array.toList_inj.1
  rw [toList_madeCells_one]; simp [byteCells]
 rw [hmade] at b1 hB0
 simp only [Value.cells] at *
 rw [hmade]
 go_loopw [6] (fun i W => ∃ j : Nat, j ≤ k ∧ i = .int .i64 j ∧ Blk W w.heap.size 5 (byteCells (List.replicate (k - j) 0 ++ be j x)) ∧ Below w.heap.size w W) (fun i _ => k - (intOf i).toNat)
 case atStart => exact ⟨0, by omega, rfl, by simpa [be] using b1, hB0⟩
 case round =>
  obtain ⟨j, hj, rfl, hblk, hB⟩ := hrel
  by_cases hlt : j < k
  · have f2 := hblk.frozen (k - 1 - j)
    have c2 : ∃ v2, wr.cell? ⟨w.heap.size, k - 1 - j, none⟩ = some v2 := by
     rw [hblk.cell]; exact ⟨_, Array.getElem?_eq_getElem (by simp [byteCells, be_length]; omega)⟩
    obtain ⟨v2, c2⟩ := c2
    clear b1 hB0 hmade hmk
    go_wp2_with fail
    go_roundw
    case rel =>
     refine ⟨j + 1, by omega, by go_num, ?_, hB.setCell (p := ⟨w.heap.size, k - 1 - j, none⟩) (Nat.le_refl _) _⟩
     have h := hblk.set (k - 1 - j) (.int .u8 ((x : Int) / 2 ^ (8 * j) % 256))
     have e : (byteCells (List.replicate (k - j) 0 ++ be j x)).setIfInBounds (k - 1 - j) (.int .u8 ((x : Int) / 2 ^ (8 * j) % 256)) = byteCells (List.replicate (k - (j + 1)) 0 ++ be (j + 1) x) := by
      have e1 : k - j = (k - (j + 1)) + 1 := by omega
      have e2 : Value.int .u8 ((x : Int) / 2 ^ (8 * j) % 256) = Value.int .u8 (UInt8.ofNat (x / 256 ^ j)).toNat := by
       have e0 : (2 : Int) ^ (8 * j) = ((256 ^ j : Nat) : Int) := by
        rw [show (256 : Nat) = 2 ^ 8 from rfl, ← Nat.pow_mul, Int.natCast_pow]; rfl
       rw [e0, ← Int.natCast_ediv]
       simp
      rw [e2, e1, List.replicate_succ', be, byteCells, byteCells, List.append_assoc, List.map_append, List.setIfInBounds_toArray, List.set_append_right _ _ (by simp; omega)]
      have e3 : k - 1 - j - (List.map (fun b : UInt8 => Value.int .u8 b.toNat) (List.replicate (k - (j + 1)) 0)).length = 0 := by rw [List.length_map, List.length_replicate]; omega
      rw [e3]
      simp
     rw [e] at h
     exact h
    case measure => simp [intOf]; omega
  · obtain rfl : j = k := by omega
    have hcv := run_convert_bytes_back (P := Tryz.prog) wr 77 9 5 ⟨w.heap.size, 0, none⟩ j (be j x) Tryz.underlying77 Tryz.underlying5 Tryz.underlying9 (fun i hi => by
     have e : (Addr.add ⟨w.heap.size, 0, none⟩ i) = ⟨w.heap.size, i, none⟩ := by simp only [Addr.add]; split <;> simp_all
     rw [e, hblk.cell i]; simp [byteCells, hi])
    rw [be_length, bs_mk] at hcv
    go_wp2_with fail
    go_ret
    exact ⟨rfl, hB⟩
theorem take_any (l : List UInt8) (hl : l.length ≤ maxLen) (k : Int) (w : World) :
 Calls Tryz.prog 121 #[.string (bs l), .int .i64 k] w fun e w' => e = .returned (.tuple #[.int .u64 (takeR l k).1, .string (bs (takeR l k).2.1), .int .i64 (takeR l k).2.2]) ∧ Below w.heap.size w w' := by
 by_cases h : k < 1 ∨ 8 < k
 · refine (take_bad l hl k h w).mono ?_
   rintro e w' ⟨rfl, rfl⟩
   exact ⟨by rw [takeR, if_pos h]; rfl, Below.refl _ _⟩
 · by_cases h2 : (l.length : Int) < k
   · refine (take_short l hl k (by omega) (by omega) h2 w).mono ?_
     rintro e w' ⟨rfl, rfl⟩
     exact ⟨by rw [takeR, if_neg h, if_pos h2]; rfl, Below.refl _ _⟩
   · refine (take_ok l hl k (by omega) (by omega) (by omega) w).mono ?_
     rintro e w' ⟨rfl, hb⟩
     exact ⟨by rw [takeR, if_neg h, if_neg h2], hb⟩
theorem rtake_any (l : List UInt8) (hl : l.length ≤ maxLen) (k : Int) (w : World) :
 Calls Tryz.prog 58 #[.string (bs l), .int .i64 k] w fun e w' => e = .returned (.tuple #[.int .u64 (takeR l k).1, .string (bs (takeR l k).2.1), .int .i64 (takeR l k).2.2]) ∧ Below w.heap.size w w' := by
 by_cases h : k < 1 ∨ 8 < k
 · refine (rtake_bad l hl k h w).mono ?_
   rintro e w' ⟨rfl, rfl⟩
   exact ⟨by rw [takeR, if_pos h]; rfl, Below.refl _ _⟩
 · by_cases h2 : (l.length : Int) < k
   · refine (rtake_short l hl k (by omega) (by omega) h2 w).mono ?_
     rintro e w' ⟨rfl, rfl⟩
     exact ⟨by rw [takeR, if_neg h, if_pos h2]; rfl, Below.refl _ _⟩
   · refine (rtake_ok l hl k (by omega) (by omega) (by omega) w).mono ?_
     rintro e w' ⟨rfl, hb⟩
     exact ⟨by rw [takeR, if_neg h, if_neg h2], hb⟩
theorem rpad_any (l : List UInt8) (hl : l.length ≤ maxLen) (k : Int) (w : World) :
 Calls Tryz.prog 75 #[.string (bs l), .int .i64 k] w fun e w' => e = .returned (.tuple #[.string (bs (padR l k).1), .int .i64 (padR l k).2]) ∧ Below w.heap.size w w' := by
 by_cases h : k < l.length ∨ 65536 < k
 · refine (rpad_bad l hl k h w).mono ?_
   rintro e w' ⟨rfl, rfl⟩
   exact ⟨by rw [padR, if_pos h], Below.refl _ _⟩
 · refine (rpad_ok l hl k (by omega) (by omega) w).mono ?_
   rintro e w' ⟨rfl, hb⟩
   exact ⟨by rw [padR, if_neg h], hb⟩
theorem rput_any (x size : Int) (h0 : 0 ≤ x) (hx : x < 18446744073709551616) (w : World) :
 Calls Tryz.prog 74 #[.int .u64 x, .int .i64 size] w fun e w' => e = .returned (.string (bs (putS x.toNat size))) ∧ Below w.heap.size w w' := by
 obtain ⟨x, rfl⟩ := Int.eq_ofNat_of_zero_le h0
 by_cases h : 1 ≤ size ∧ size ≤ 8
 · obtain ⟨k, rfl⟩ := Int.eq_ofNat_of_zero_le (show 0 ≤ size by omega)
   refine (rput_ok x k (by omega) (by omega) (by omega) w).mono ?_
   rintro e w' ⟨rfl, hb⟩
   exact ⟨by rw [putS, if_pos h]; simp, hb⟩
 · refine (rput_bad x size w (by omega)).mono ?_
   rintro e w' ⟨rfl, rfl⟩
   exact ⟨by rw [putS, if_neg h], Below.refl _ _⟩
end Go.Proofs.YtlapjkbefkmohaaGreat
