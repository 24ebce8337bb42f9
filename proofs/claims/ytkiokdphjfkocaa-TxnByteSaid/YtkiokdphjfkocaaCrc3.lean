/- Package crc: sums, and their bytes; the document's own. -/
import Derived.Test.YtkiokdphjfkocaaCrc2
set_option linter.unusedVariables false
namespace Go.Proofs.Ytkiokdphjfkocaa
open Go.RowKit Go.Shelf
attribute [local go_sem] bs_mk bs_append bs_extract bs_size bs_toList bs_get
theorem not32 (s : Nat) (h : s < 4294967296) : 4294967295 ^^^ s = 4294967295 - s := by
  have e := congrArg BitVec.toNat (BitVec.allOnes_xor (x := BitVec.ofNat 32 s))
  rw [BitVec.toNat_xor, BitVec.toNat_not, BitVec.toNat_allOnes, BitVec.toNat_ofNat, Nat.mod_eq_of_lt h] at e
  exact e
theorem not32_bits (s : Nat) (h : s < 4294967296) : bits .xor .u32 IntKind.u32.max (s : Int) = (((4294967295 - s : Nat)) : Int) := by
  rw [← not32 s h]
  exact u32_xor_nat 4294967295 s (by omega) h
theorem tabN_zero : tabN 0 = List.replicate 256 0 := by
  have e : (fun j => if j < 0 then crcN 8 j else 0) = fun _ => 0 := by funext j; rw [if_neg (Nat.not_lt_zero j)]
  rw [tabN, e, List.map_const', List.length_range]
theorem Try.summer_zero0 : Try.zeroCells97 = sumCells 0 0 (List.replicate 256 0) := by kernel_rfl
theorem Try.summer_zero : Try.zeroCells97 = sumCells 0 0 (tabN 0) := by rw [tabN_zero, Try.summer_zero0]
theorem Try.summer_new (w : World) : Blk (w.alloc (.cells Try.zeroCells97 97)) w.heap.size 97 (sumCells 0 0 (tabN 0)) :=
  Eq.subst (motive := fun c => Blk (w.alloc (.cells Try.zeroCells97 97)) w.heap.size 97 c) Try.summer_zero (Blk.new w 97 Try.zeroCells97)
set_option maxRecDepth 100000 in
set_option maxHeartbeats 1600000 in
theorem crc_more (s : Nat) (hs : s < 4294967296) (l : List UInt8) (hl : l.length ≤ 140737488355328) (w : World) :
    Calls Try.prog 26 #[.int .u32 s, .string (bs l)] w fun e w' => e = .returned (.int .u32 (crcMore s l : Nat)) ∧ Below w.heap.size w w' := by
  have hx := not32_bits s hs
  have hg := Try.summer_new w
  have hb := (Below.refl w.heap.size w).alloc (Nat.le_refl _) (.cells Try.zeroCells97 97)
  have hml : 4294967295 - s < 4294967296 := by omega
  have He := hid (show crcMore s l = 4294967295 - crcL (4294967295 - s) l from rfl)
  obtain ⟨m, hme⟩ : ∃ m, 4294967295 - s = m := ⟨_, rfl⟩
  rw [hme] at hx hml He
  have hm := summer_more w.heap.size _ hg m hml l hl
  have hlt := crcL_lt l (c := m) hml
  have hy := not32_bits (crcL m l) hlt
  obtain ⟨v, hv⟩ : ∃ v, crcL m l = v := ⟨_, rfl⟩
  rw [hv] at hm hy He
  obtain ⟨r, hr⟩ : ∃ r, 4294967295 - v = r := ⟨_, rfl⟩
  rw [hr] at hy He
  clear hg hme hv hr hlt hml
  have hsg : IntKind.u32.signed = false := rfl
  rw [He.out]
  go_enter Try.func26, Try.ntmps26
  go_wp2_with (go_at_call 52; refine hm.mono ?_; rintro e w2 ⟨rfl, hw2⟩)
  go_ret
  exact ⟨rfl, hb.trans hw2⟩
theorem crc_of (l : List UInt8) (hl : l.length ≤ 140737488355328) (w : World) :
    Calls Try.prog 24 #[.string (bs l)] w fun e w' => e = .returned (.int .u32 (crcOf l : Nat)) ∧ Below w.heap.size w w' := by
  have hm := crc_more 0 (by omega) l hl w
  unfold crcOf
  generalize crcMore 0 l = r at *
  go_enter Try.func24, Try.ntmps24
  go_wp2_with (go_at_call 26; refine hm.mono ?_; rintro e w2 ⟨rfl, hw2⟩)
  go_ret
  exact ⟨rfl, hw2⟩
theorem crcR_step {c : Nat} (h : c < 4294967296) : (c % 2 = 1 → bits .xor .u32 ((c : Int) / 2) 2197175160 = ((crc1 c : Nat) : Int)) ∧ (c % 2 = 0 → (c : Int) / 2 = ((crc1 c : Nat) : Int)) := by
  have e2 : ((c : Int) / (2 : Int)) = (((c >>> 1 : Nat)) : Int) := by rw [Nat.shiftRight_eq_div_pow]; omega
  constructor
  · intro h1
    rw [e2, show (2197175160 : Int) = ((2197175160 : Nat) : Int) by rfl, u32_xor_nat _ _ (by rw [Nat.shiftRight_eq_div_pow]; omega) (by omega)]
    rw [crc1, Nat.and_one_is_mod, h1, Nat.one_mul]
  · intro h0
    rw [e2, crc1, Nat.and_one_is_mod, h0, Nat.zero_mul, Nat.xor_zero]
set_option maxRecDepth 100000 in
set_option maxHeartbeats 1600000 in
theorem r2_more (s : Nat) (hs : s < 4294967296) (l : List UInt8) (hl : l.length ≤ 140737488355328) (w : World) :
    Calls Try.prog 33 #[.int .u32 s, .string (bs l)] w fun e w' => e = .returned (.int .u32 (crcMore s l : Nat)) ∧ w = w' := by
  have hx := not32_bits s hs
  have hml : 4294967295 - s < 4294967296 := by omega
  have He := hid (show crcMore s l = 4294967295 - crcL (4294967295 - s) l from rfl)
  obtain ⟨m, hme⟩ : ∃ m, 4294967295 - s = m := ⟨_, rfl⟩
  rw [hme] at hx hml He
  have hsg : IntKind.u32.signed = false := rfl
  have hy := not32_bits (crcL m l) (crcL_lt l hml)
  obtain ⟨v, hv⟩ : ∃ v, crcL m l = v := ⟨_, rfl⟩
  rw [hv] at hy He
  obtain ⟨r, hr⟩ : ∃ r, 4294967295 - v = r := ⟨_, rfl⟩
  rw [hr] at hy He
  have Hv := hid hv
  have Hy := hid hy
  rw [He.out]
  clear hme He hv hr hy
  go_enter Try.func33, Try.ntmps33
  go_wp2_with fail
  go_loop [5, 6] (fun c u => ∃ i : Nat, i ≤ l.length ∧ u = .int .i64 i ∧ c = .int .u32 (crcL m (l.take i) : Nat)) (fun c u => l.length - (intOf u).toNat)
  case atStart => exact ⟨0, Nat.zero_le _, rfl, rfl⟩
  case round =>
    obtain ⟨i, hi, rfl, rfl⟩ := hrel
    have hcl := crcL_lt (l.take i) hml
    clear hx
    by_cases hlt : i < l.length
    · have Hn := hid (show crcL m (l.take (i + 1)) = crcB (crcL m (l.take i)) l[i] by rw [List.take_succ_eq_append_getElem hlt, crcL_snoc])
      generalize crcL m (l.take i) = cc at *
      have hbl : l[i].toNat < 256 := l[i].toNat_lt
      have hX : bits .xor .u32 (cc : Int) (l[i].toNat : Int) = (((cc ^^^ l[i].toNat : Nat)) : Int) := u32_xor_nat cc _ hcl (by omega)
      have hm2 : cc ^^^ l[i].toNat < 4294967296 := Nat.xor_lt_two_pow (n := 32) hcl (by omega)
      have Hn2 := hid (show crcL m (l.take (i + 1)) = crcN 8 (cc ^^^ l[i].toNat) from Hn.out)
      generalize cc ^^^ l[i].toNat = y at *
      clear Hn
      go_wp2_with fail
      go_loop [5, 7] (fun c u => ∃ k : Nat, k ≤ 8 ∧ u = .int .i64 k ∧ c = .int .u32 (crcN k y : Nat)) (fun c u => 8 - (intOf u).toNat)
      case atStart => exact ⟨0, by omega, rfl, rfl⟩
      case round =>
        obtain ⟨k, hk, rfl, rfl⟩ := hrel
        clear hX
        have hkl := crcN_lt k hm2
        have Hk := hid (crcN_next k y)
        by_cases hlk : k < 8
        · obtain ⟨s1, s0⟩ := crcR_step hkl
          obtain ⟨z, hz⟩ : ∃ z, crcN k y = z := ⟨_, rfl⟩
          rw [hz] at hkl Hk s1 s0 ⊢
          clear hz
          rcases Nat.mod_two_eq_zero_or_one z with h | h
          · have S := hid (s0 h)
            have hz2 : ((((z : Int) % 2) == 1) = false) := by simp; omega
            clear s1 s0 h
            go_wp2_with fail
            refine ⟨⟨k + 1, by omega, by go_num, by rw [S.out, Hk.out]⟩, ?_⟩
            simp [intOf]; omega
          · have S := hid (s1 h)
            have hz2 : ((((z : Int) % 2) == 1) = true) := by simp; omega
            clear s1 s0 h
            go_wp2_with fail
            refine ⟨⟨k + 1, by omega, by go_num, by rw [S.out, Hk.out]⟩, ?_⟩
            simp [intOf]; omega
        · obtain rfl : k = 8 := by omega
          clear Hk
          go_wp2_with fail
          refine ⟨⟨i + 1, by omega, by go_num, by rw [Hn2.out]⟩, ?_⟩
          simp [intOf]; omega
    · obtain rfl : i = l.length := by omega
      rw [List.take_length, Hv.out]
      have hy := Hy.out
      go_wp2_with fail
      go_ret
      exact ⟨rfl, rfl⟩
theorem r2_of (l : List UInt8) (hl : l.length ≤ 140737488355328) (w : World) :
    Calls Try.prog 32 #[.string (bs l)] w fun e w' => e = .returned (.int .u32 (crcOf l : Nat)) ∧ w = w' := by
  have hm := r2_more 0 (by omega) l hl w
  unfold crcOf
  generalize crcMore 0 l = r at *
  go_enter Try.func32, Try.ntmps32
  go_wp2_with (go_at_call 33; refine hm.mono ?_; rintro e w2 ⟨rfl, rfl⟩)
  go_ret
  exact ⟨rfl, rfl⟩
theorem be4 (s : Nat) : be 4 s = [UInt8.ofNat (s / 16777216), UInt8.ofNat (s / 65536), UInt8.ofNat (s / 256), UInt8.ofNat s] := by
  simp [be]
theorem u8cell (n : Nat) : Value.int .u8 ((UInt8.ofNat n).toNat : Int) = .int .u8 ((n : Int) % 256) := by
  congr 1
def crcCells (s : Nat) (i : Nat) : Array Value := #[.int .u8 (if 0 < i then (s : Int) / 16777216 else 0), .int .u8 (if 1 < i then (s : Int) / 65536 % 256 else 0), .int .u8 (if 2 < i then (s : Int) / 256 % 256 else 0), .int .u8 (if 3 < i then (s : Int) % 256 else 0)]
theorem crcCells_be {s : Nat} (hs : s < 4294967296) : crcCells s 4 = byteCells (be 4 s) := by
  simp only [crcCells, byteCells, be4, List.map_cons, List.map_nil, u8cell]
  simp
  omega
set_option maxRecDepth 100000 in
set_option maxHeartbeats 1600000 in
theorem crc_bytes (s : Nat) (hs : s < 4294967296) (w : World) :
    Calls Try.prog 28 #[.int .u32 s] w fun e w' => e = .returned (.string (bs (be 4 s))) ∧ Below w.heap.size w w' := by
  have h0 := Blk.new w 100 (crcCells s 0)
  have hb0 := (Below.refl w.heap.size w).alloc (Nat.le_refl _) (.cells (crcCells s 0) 100)
  simp only [crcCells, Nat.lt_irrefl, Nat.not_lt_zero, if_false] at h0 hb0
  go_enter Try.func28, Try.ntmps28
  go_wp2_with fail
  go_loopw [5] (fun u W => ∃ i : Nat, i ≤ 4 ∧ u = .int .i64 i ∧ Blk W w.heap.size 100 (crcCells s i) ∧ Below w.heap.size w W) (fun u _ => 4 - (intOf u).toNat)
  case atStart => exact ⟨0, by omega, rfl, h0, hb0⟩
  case round =>
    obtain ⟨i, hi, rfl, hk, hb⟩ := hrel
    clear h0 hb0
    have f0 := hk.frozen
    obtain rfl | rfl | rfl | rfl | rfl : i = 0 ∨ i = 1 ∨ i = 2 ∨ i = 3 ∨ i = 4 := by omega
    · have c0 : wr.cell? ⟨w.heap.size, 0, none⟩ = some (.int .u8 0) := hk.cell 0
      go_wp2_with fail
      refine ⟨⟨1, by omega, rfl, ?_, hb.setCell (Nat.le_refl _) _⟩, by decide⟩
      have hs1 := hk.set 0 (.int .u8 ((s : Int) / 16777216))
      simpa [crcCells] using hs1
    · have c0 : wr.cell? ⟨w.heap.size, 1, none⟩ = some (.int .u8 0) := hk.cell 1
      go_wp2_with fail
      refine ⟨⟨2, by omega, rfl, ?_, hb.setCell (Nat.le_refl _) _⟩, by decide⟩
      have hs1 := hk.set 1 (.int .u8 ((s : Int) / 65536 % 256))
      simpa [crcCells] using hs1
    · have c0 : wr.cell? ⟨w.heap.size, 2, none⟩ = some (.int .u8 0) := hk.cell 2
      go_wp2_with fail
      refine ⟨⟨3, by omega, rfl, ?_, hb.setCell (Nat.le_refl _) _⟩, by decide⟩
      have hs1 := hk.set 2 (.int .u8 ((s : Int) / 256 % 256))
      simpa [crcCells] using hs1
    · have c0 : wr.cell? ⟨w.heap.size, 3, none⟩ = some (.int .u8 0) := hk.cell 3
      go_wp2_with fail
      refine ⟨⟨4, by omega, rfl, ?_, hb.setCell (Nat.le_refl _) _⟩, by decide⟩
      have hs1 := hk.set 3 (.int .u8 ((s : Int) % 256))
      simpa [crcCells] using hs1
    · have hcell : ∀ j (hj : j < (be 4 s).length), wr.cell? ((⟨w.heap.size, 0, none⟩ : Addr).add j) = some (.int .u8 ((be 4 s)[j].toNat : Int)) := fun j hj => by
        rw [add_at, hk.cell, crcCells_be hs, Nat.zero_add]
        simp [byteCells, hj]
      have hcv := run_convert_bytes_back (P := Try.prog) wr 43 9 5 ⟨w.heap.size, 0, none⟩ 4 (be 4 s) Try.underlying43 Try.underlying5 Try.underlying9 hcell
      rw [be_length] at hcv
      clear hcell hk
      go_wp2_with fail
      go_ret
      exact ⟨rfl, hb⟩
set_option maxRecDepth 100000 in
set_option maxHeartbeats 1600000 in
theorem r2_bytes (s : Nat) (hs : s < 4294967296) (w : World) :
    Calls Try.prog 34 #[.int .u32 s] w fun e w' => e = .returned (.string (bs (be 4 s))) ∧ Below w.heap.size w w' := by
  have hk := Blk.new w 5 (crcCells s 4)
  have hcell : ∀ j (hj : j < (be 4 s).length), (w.alloc (.cells (crcCells s 4) 5)).cell? ((⟨w.heap.size, 0, none⟩ : Addr).add j) = some (.int .u8 ((be 4 s)[j].toNat : Int)) := fun j hj => by
    rw [add_at, hk.cell, crcCells_be hs, Nat.zero_add]
    simp [byteCells, hj]
  have hcv := run_convert_bytes_back (P := Try.prog) (w.alloc (.cells (crcCells s 4) 5)) 43 9 5 ⟨w.heap.size, 0, none⟩ 4 (be 4 s) Try.underlying43 Try.underlying5 Try.underlying9 hcell
  rw [be_length] at hcv
  simp only [crcCells, Nat.reduceLT, if_true] at hcv
  clear hcell hk
  go_enter Try.func34, Try.ntmps34
  go_wp2_with fail
  go_ret
  exact ⟨rfl, (Below.refl w.heap.size w).alloc (Nat.le_refl _) _⟩
end Go.Proofs.Ytkiokdphjfkocaa
