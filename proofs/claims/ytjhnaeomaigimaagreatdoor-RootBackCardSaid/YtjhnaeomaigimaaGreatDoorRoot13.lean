/- Package root, ref10: a dirty bitmap as bytes. -/
import Derived.Test.YtjhnaeomaigimaaGreatDoorRoot12
import Derived.Lib.ConvBytes
import Derived.Laws.BitsAllLaws
set_option linter.unusedVariables false
namespace Go.Proofs.YtjhnaeomaigimaaGreatDoor
open Go.RowKit Go.Shelf
attribute [local go_sem] bs_mk bs_append bs_extract bs_size bs_toList bs_get
theorem and7 : ∀ k : Fin 64, bits .and .i64 ((k.val : Nat) : Int) 7 = ((k.val % 8 : Nat) : Int) := by decide +kernel
theorem byteCells_set (l : List UInt8) (j : Nat) (x : UInt8) : (byteCells l).setIfInBounds j (.int .u8 x.toNat) = byteCells (l.set j x) := by simp [byteCells, List.map_set]
theorem byteCells_get (l : List UInt8) (j : Nat) (h : j < l.length) : (byteCells l)[j]? = some (.int .u8 (l[j]).toNat) := by simp [byteCells, h]
theorem Blk.byte {w : World} {g : Nat} {t : TypeId} {l : List UInt8} (h : Blk w g t (byteCells l)) (j : Nat) (hj : j < l.length) : w.cell? ⟨g, j, none⟩ = some (.int .u8 (l.getD j 0).toNat) := by
  rw [h.cell, byteCells_get l j hj, List.getD_eq_getElem?_getD, List.getElem?_eq_getElem hj]; rfl
theorem blk_byte {w : World} {g : Nat} {t : TypeId} {l : List UInt8} (h : Blk w g t (byteCells l)) (j : Nat) (x : UInt8) : Blk (w.setCell ⟨g, j, none⟩ (.int .u8 x.toNat)) g t (byteCells (l.set j x)) := by
  rw [← byteCells_set]; exact h.set j _
set_option maxRecDepth 100000 in
theorem rt_writeMap_zero (w : World) : Calls Tryz.prog 54 #[dmval Dm.zero] w fun e w' => e = .returned (.tuple #[.string (bs (List.replicate 64 0)), .bool true]) ∧ Below w.heap.size w w' := by
  have c := fun W => rt_zeros 64 (by decide) W
  rw [show ((64 : Nat) : Int) = 64 from rfl] at c
  have a36 := Tryz.dm_agg
  have z36 := Tryz.dm_siz
  generalize List.replicate 64 (0 : UInt8) = T at *
  have hB := Below.refl w.heap.size w
  have x := Blk.new w 36 (dmCells Dm.zero).toArray
  have xk := Tryz.dm_all Dm.zero rfl x
  have hB_1 := hB.alloc hB.size (.cells (dmCells Dm.zero).toArray 36)
  go_enter Tryz.func54, Tryz.ntmps54
  go_wp2_with (first | (go_at_call 102; refine (c _).mono ?_; rintro e w1 ⟨rfl, hb1⟩) | (refine wpList_run rfl (dmval Dm.zero) (Tryz.run_dmz rfl _) ?_) | (refine wpList_run rfl (.bool true) (Tryz.run_dm _ _ _ rfl Dm.zero Dm.zero rfl rfl (by decide) rfl (by decide) rfl true (decide_eq_true rfl) _) ?_))
  replace hB := bt hB_1 hb1
  go_ret2
  exact ⟨rfl, hB⟩
set_option maxRecDepth 100000 in
set_option maxHeartbeats 1000000 in
theorem rt_writeMap_1 (m : Dm) (h64 : m.bits.length = 64) (hm : m.name.length ≤ maxLen) (hz : m ≠ Dm.zero) (w : World) : Calls Tryz.prog 54 #[dmval m] w fun e w' => (∃ b, e = .returned (.tuple #[.string (bs b), .bool m.ok]) ∧ (m.ok = true → b = m.bytes)) ∧ Below w.heap.size w w' := by
  have cn := fun W => name_any m.name hm W
  obtain ⟨N, en, hN⟩ : ∃ N en, nameR m.name = (N, en) := ⟨_, _, rfl⟩
  rw [hN] at cn
  simp only at cn
  have hname : nameOk m.name = false → en ≠ 0 := fun h => by rw [nameR, if_neg (by rw [h]; simp)] at hN; obtain ⟨_, rfl⟩ := Prod.mk.inj hN; decide
  have hnam2 : nameOk m.name = true → en = 0 ∧ N = m.name ++ List.replicate (8 - m.name.length) 0 := fun h => by rw [nameR, if_pos h] at hN; obtain ⟨a, b⟩ := Prod.mk.inj hN; exact ⟨b.symm, a.symm⟩
  have hNl : N.length ≤ 8 := by
    cases h : nameOk m.name with
    | true => rw [(hnam2 h).2]; have := nameOk_len h; simp; omega
    | false => rw [nameR, if_neg (by rw [h]; simp)] at hN; obtain ⟨rfl, _⟩ := Prod.mk.inj hN; simp
  have Hok := hid (show m.ok = decide (en = 0) by
    rw [Dm.ok, decide_eq_false hz, Bool.false_or]
    cases h : nameOk m.name with
    | true => rw [(hnam2 h).1]; rfl
    | false => exact (decide_eq_false (hname h)).symm)
  have Hby := hid (fun (h : m.ok = true) => show m.bytes = pad64 (N ++ m.tail) by
    rw [Dm.bytes, if_neg hz]
    rw [Dm.ok, decide_eq_false hz, Bool.false_or] at h
    rw [(hnam2 h).2])
  have pp := fun W => pad_any (N ++ m.tail) (by rw [List.length_append, Dm.tail_length]; unfold maxLen; omega) 64 W
  have hp64 : (padR (N ++ m.tail) 64).1 = pad64 (N ++ m.tail) := by
    have := Dm.tail_length m
    rw [padR, if_neg (by rw [List.length_append]; omega)]
    rfl
  rw [hp64] at pp
  have a36 := Tryz.dm_agg
  have z36 := Tryz.dm_siz
  have htl := Dm.tail_length m
  have Htail := hid (show m.tail = bitRow (fun k => m.bits.getD k false) (Dm.flags m.use) 64 from rfl)
  generalize m.tail = TL at *
  generalize m.bytes = BY at *
  generalize m.ok = OK at *
  clear hname hnam2 hN hp64
  obtain ⟨name, use, bits⟩ := m
  simp only at h64 hm cn Htail
  have Hbit := hid (fun (k : Nat) (hk : k < 64) => show bits.getD k false = bits[k]'(by omega) by rw [List.getD_eq_getElem?_getD, List.getElem?_eq_getElem (by omega)]; rfl)
  cases use with
  | false =>
    have hB := Below.refl w.heap.size w
    have x := Blk.new w 36 (dmCells ⟨name, false, bits⟩).toArray
    have xk := Tryz.dm_all ⟨name, false, bits⟩ h64 x
    have hB_1 := hB.alloc hB.size (.cells (dmCells ⟨name, false, bits⟩).toArray 36)
    go_enter Tryz.func54, Tryz.ntmps54
    go_wp2_with (first | (refine wpList_run rfl (dmval Dm.zero) (Tryz.run_dmz rfl _) ?_) | (refine wpList_run rfl (.bool false) (Tryz.run_dm _ _ _ rfl ⟨name, false, bits⟩ Dm.zero rfl rfl hm h64 (by decide) rfl false (decide_eq_false hz) _) ?_))
    go_at_call 79
    refine (cn _).mono ?_
    rintro e w1 ⟨rfl, hb1⟩
    replace hB := bt hB_1 hb1
    replace x := x.below hb1 (by simp)
    have lt1 := x.lt
    have hB0 := hB
    have x0 := x
    replace hB := hB.alloc hB.size (.cells #[.int .u8 0, .int .u8 0, .int .u8 0, .int .u8 0, .int .u8 0, .int .u8 0, .int .u8 0, .int .u8 0, .int .u8 0, .int .u8 0, .int .u8 0, .int .u8 0, .int .u8 0, .int .u8 0, .int .u8 0, .int .u8 0] 150)
    replace x := x.alloc (.cells #[.int .u8 0, .int .u8 0, .int .u8 0, .int .u8 0, .int .u8 0, .int .u8 0, .int .u8 0, .int .u8 0, .int .u8 0, .int .u8 0, .int .u8 0, .int .u8 0, .int .u8 0, .int .u8 0, .int .u8 0, .int .u8 0] 150)
    have b0 : Blk (w1.alloc (.cells #[.int .u8 0, .int .u8 0, .int .u8 0, .int .u8 0, .int .u8 0, .int .u8 0, .int .u8 0, .int .u8 0, .int .u8 0, .int .u8 0, .int .u8 0, .int .u8 0, .int .u8 0, .int .u8 0, .int .u8 0, .int .u8 0] 150)) w1.heap.size 150 (byteCells (List.replicate 16 0)) := Blk.new w1 150 #[.int .u8 0, .int .u8 0, .int .u8 0, .int .u8 0, .int .u8 0, .int .u8 0, .int .u8 0, .int .u8 0, .int .u8 0, .int .u8 0, .int .u8 0, .int .u8 0, .int .u8 0, .int .u8 0, .int .u8 0, .int .u8 0]
    have sz1 : w.heap.size ≤ w1.heap.size := by omega
    replace xk := Tryz.dm_all ⟨name, false, bits⟩ h64 x
    have f0 := b0.frozen 0
    have c0 := b0.byte 0 (by decide)
    go_wp2_with fail
    go_loopw [23] (fun k W => ∃ n : Nat, n ≤ 64 ∧ k = .int .i64 n ∧ Blk W w1.heap.size 150 (byteCells (bitRow (fun k => bits.getD k false) (Dm.flags false) n)) ∧ Blk W w.heap.size 36 (dmCells ⟨name, false, bits⟩).toArray ∧ Below w.heap.size w W) (fun k _ => 64 - (intOf k).toNat)
    case atStart => exact ⟨0, Nat.zero_le _, rfl, b0, x, hB⟩
    case round =>
      clear xk x b0 hB
      obtain ⟨n, hn, rfl, b0, x, hB⟩ := hrel
      have hne : w.heap.size ≠ w1.heap.size := by omega
      have hrl : (bitRow (fun k => bits.getD k false) (Dm.flags false) n).length = 16 := by rw [bitRow_length, Dm.flags_length]
      by_cases hlt : n < 64
      · have hk := x.bit n (by rw [h64]; exact hlt)
        have hnext := bitRow_next (fun k => bits.getD k false) (Dm.flags false) n
        simp only [Hbit.out n hlt] at hnext
        simp only at hk
        generalize bits[n]'(by omega) = b at hk hnext
        have e2 := and7 ⟨n, hlt⟩
        simp only at e2
        cases b with
        | false =>
          rw [if_neg (by decide)] at hnext
          have Hn := hid hnext
          clear hnext
          go_wp2_with fail
          go_roundw
          case rel => exact ⟨n + 1, by omega, by go_num, by rw [Hn.out]; exact b0, x, hB⟩
          case measure => simp [intOf]; omega
        | true =>
          rw [if_pos rfl] at hnext
          obtain ⟨j, hj⟩ : ∃ j : Nat, 8 + n / 8 = j := ⟨_, rfl⟩
          obtain ⟨s, hs⟩ : ∃ s : Nat, n % 8 = s := ⟨_, rfl⟩
          have hj16 : j < 16 := by omega
          have hs8 : s < 8 := by omega
          have hs8' : ((s : Nat) : Int) ≤ 8 := by omega
          have e1 : (8 : Int) + (n : Int) / 8 = (j : Int) := by omega
          rw [hs] at e2
          rw [hj, hs] at hnext
          have Hn := hid hnext
          clear hnext hj hs
          generalize bitRow (fun k => bits.getD k false) (Dm.flags false) n = R at *
          have c0 := b0.byte j (by omega)
          have f0 := b0.frozen j
          have b1 := blk_byte b0 j (UInt8.ofNat ((R.getD j 0).toNat ||| 2 ^ s))
          have hB1 := hB.setCell (p := ⟨w1.heap.size, j, none⟩) sz1 (.int .u8 (UInt8.ofNat ((R.getD j 0).toNat ||| 2 ^ s)).toNat)
          have x1 := x.other (a := ⟨w1.heap.size, j, none⟩) hne (.int .u8 (UInt8.ofNat ((R.getD j 0).toNat ||| 2 ^ s)).toNat)
          have hv := (R.getD j 0).toNat_lt
          have hp : 2 ^ s < 256 := Nat.pow_lt_pow_right (a := 2) (by omega) hs8
          have e3 : IntKind.u8.wrap ((2 : Int) ^ s) = ((2 ^ s : Nat) : Int) := by
            rw [IntKind.wrap_u8', show ((2 : Int) ^ s) = ((2 ^ s : Nat) : Int) by simp]
            exact Int.emod_eq_of_lt (Int.natCast_nonneg _) (Int.ofNat_lt.2 hp)
          have e4 : Go.bits .or .u8 ((R.getD j 0).toNat : Int) ((2 ^ s : Nat) : Int) = ((UInt8.ofNat ((R.getD j 0).toNat ||| 2 ^ s)).toNat : Int) := by rw [u8_or_nat _ _ (by omega) (by omega), byte_or _ _ hs8]
          generalize UInt8.ofNat ((R.getD j 0).toNat ||| 2 ^ s) = X at *
          generalize 2 ^ s = p at *
          generalize R.getD j 0 = v at *
          go_wp2_with fail
          go_region
          go_wp2_with fail
          go_roundw
          case rel => exact ⟨n + 1, by omega, by go_num, by rw [Hn.out]; exact b1.drew, x1.drew, hB1.drew⟩
          case measure => simp [intOf]; omega
      · obtain rfl : n = 64 := by omega
        have hR : bitRow (fun k => bits.getD k false) (Dm.flags false) 64 = TL := Htail.out.symm
        rw [hR] at b0 hrl
        clear hR Htail Hbit
        have hcv := run_convert_bytes_back (P := Tryz.prog) wr 151 9 5 ⟨w1.heap.size, 0, none⟩ 16 TL Tryz.underlying151 Tryz.underlying5 Tryz.underlying9 (fun i hi => by
          rw [add_at, Nat.zero_add, b0.cell]; simp [byteCells, hi])
        rw [htl] at hcv
        go_wp2_with fail
        go_at_call 99
        refine (pp _).mono ?_
        rintro e w2 ⟨rfl, hb2⟩
        replace hB := bt hB hb2
        go_wp2_with fail
        go_ret2
        exact ⟨⟨_, by rw [Hok.out]; rfl, fun h => (Hby.out h).symm⟩, hB⟩
  | true =>
    have hB := Below.refl w.heap.size w
    have x := Blk.new w 36 (dmCells ⟨name, true, bits⟩).toArray
    have xk := Tryz.dm_all ⟨name, true, bits⟩ h64 x
    have hB_1 := hB.alloc hB.size (.cells (dmCells ⟨name, true, bits⟩).toArray 36)
    go_enter Tryz.func54, Tryz.ntmps54
    go_wp2_with (first | (refine wpList_run rfl (dmval Dm.zero) (Tryz.run_dmz rfl _) ?_) | (refine wpList_run rfl (.bool false) (Tryz.run_dm _ _ _ rfl ⟨name, true, bits⟩ Dm.zero rfl rfl hm h64 (by decide) rfl false (decide_eq_false hz) _) ?_))
    go_at_call 79
    refine (cn _).mono ?_
    rintro e w1 ⟨rfl, hb1⟩
    replace hB := bt hB_1 hb1
    replace x := x.below hb1 (by simp)
    have lt1 := x.lt
    have hB0 := hB
    have x0 := x
    replace hB := hB.alloc hB.size (.cells #[.int .u8 0, .int .u8 0, .int .u8 0, .int .u8 0, .int .u8 0, .int .u8 0, .int .u8 0, .int .u8 0, .int .u8 0, .int .u8 0, .int .u8 0, .int .u8 0, .int .u8 0, .int .u8 0, .int .u8 0, .int .u8 0] 150)
    replace x := x.alloc (.cells #[.int .u8 0, .int .u8 0, .int .u8 0, .int .u8 0, .int .u8 0, .int .u8 0, .int .u8 0, .int .u8 0, .int .u8 0, .int .u8 0, .int .u8 0, .int .u8 0, .int .u8 0, .int .u8 0, .int .u8 0, .int .u8 0] 150)
    have b0 : Blk (w1.alloc (.cells #[.int .u8 0, .int .u8 0, .int .u8 0, .int .u8 0, .int .u8 0, .int .u8 0, .int .u8 0, .int .u8 0, .int .u8 0, .int .u8 0, .int .u8 0, .int .u8 0, .int .u8 0, .int .u8 0, .int .u8 0, .int .u8 0] 150)) w1.heap.size 150 (byteCells (List.replicate 16 0)) := Blk.new w1 150 #[.int .u8 0, .int .u8 0, .int .u8 0, .int .u8 0, .int .u8 0, .int .u8 0, .int .u8 0, .int .u8 0, .int .u8 0, .int .u8 0, .int .u8 0, .int .u8 0, .int .u8 0, .int .u8 0, .int .u8 0, .int .u8 0]
    have sz1 : w.heap.size ≤ w1.heap.size := by omega
    replace xk := Tryz.dm_all ⟨name, true, bits⟩ h64 x
    have f0 := b0.frozen 0
    have c0 := b0.byte 0 (by decide)
    go_wp2_with fail
    replace hB := hB0.alloc hB0.size (.cells #[.int .u8 1, .int .u8 0, .int .u8 0, .int .u8 0, .int .u8 0, .int .u8 0, .int .u8 0, .int .u8 0, .int .u8 0, .int .u8 0, .int .u8 0, .int .u8 0, .int .u8 0, .int .u8 0, .int .u8 0, .int .u8 0] 150)
    replace x := x0.alloc (.cells #[.int .u8 1, .int .u8 0, .int .u8 0, .int .u8 0, .int .u8 0, .int .u8 0, .int .u8 0, .int .u8 0, .int .u8 0, .int .u8 0, .int .u8 0, .int .u8 0, .int .u8 0, .int .u8 0, .int .u8 0, .int .u8 0] 150)
    clear b0
    have b0 : Blk (w1.alloc (.cells #[.int .u8 1, .int .u8 0, .int .u8 0, .int .u8 0, .int .u8 0, .int .u8 0, .int .u8 0, .int .u8 0, .int .u8 0, .int .u8 0, .int .u8 0, .int .u8 0, .int .u8 0, .int .u8 0, .int .u8 0, .int .u8 0] 150)) w1.heap.size 150 (byteCells (Dm.flags true)) := Blk.new w1 150 #[.int .u8 1, .int .u8 0, .int .u8 0, .int .u8 0, .int .u8 0, .int .u8 0, .int .u8 0, .int .u8 0, .int .u8 0, .int .u8 0, .int .u8 0, .int .u8 0, .int .u8 0, .int .u8 0, .int .u8 0, .int .u8 0]
    go_loopw [23] (fun k W => ∃ n : Nat, n ≤ 64 ∧ k = .int .i64 n ∧ Blk W w1.heap.size 150 (byteCells (bitRow (fun k => bits.getD k false) (Dm.flags true) n)) ∧ Blk W w.heap.size 36 (dmCells ⟨name, true, bits⟩).toArray ∧ Below w.heap.size w W) (fun k _ => 64 - (intOf k).toNat)
    case atStart => exact ⟨0, Nat.zero_le _, rfl, b0, x, hB⟩
    case round =>
      clear xk x b0 hB
      obtain ⟨n, hn, rfl, b0, x, hB⟩ := hrel
      have hne : w.heap.size ≠ w1.heap.size := by omega
      have hrl : (bitRow (fun k => bits.getD k false) (Dm.flags true) n).length = 16 := by rw [bitRow_length, Dm.flags_length]
      by_cases hlt : n < 64
      · have hk := x.bit n (by rw [h64]; exact hlt)
        have hnext := bitRow_next (fun k => bits.getD k false) (Dm.flags true) n
        simp only [Hbit.out n hlt] at hnext
        simp only at hk
        generalize bits[n]'(by omega) = b at hk hnext
        have e2 := and7 ⟨n, hlt⟩
        simp only at e2
        cases b with
        | false =>
          rw [if_neg (by decide)] at hnext
          have Hn := hid hnext
          clear hnext
          go_wp2_with fail
          go_roundw
          case rel => exact ⟨n + 1, by omega, by go_num, by rw [Hn.out]; exact b0, x, hB⟩
          case measure => simp [intOf]; omega
        | true =>
          rw [if_pos rfl] at hnext
          obtain ⟨j, hj⟩ : ∃ j : Nat, 8 + n / 8 = j := ⟨_, rfl⟩
          obtain ⟨s, hs⟩ : ∃ s : Nat, n % 8 = s := ⟨_, rfl⟩
          have hj16 : j < 16 := by omega
          have hs8 : s < 8 := by omega
          have hs8' : ((s : Nat) : Int) ≤ 8 := by omega
          have e1 : (8 : Int) + (n : Int) / 8 = (j : Int) := by omega
          rw [hs] at e2
          rw [hj, hs] at hnext
          have Hn := hid hnext
          clear hnext hj hs
          generalize bitRow (fun k => bits.getD k false) (Dm.flags true) n = R at *
          have c0 := b0.byte j (by omega)
          have f0 := b0.frozen j
          have b1 := blk_byte b0 j (UInt8.ofNat ((R.getD j 0).toNat ||| 2 ^ s))
          have hB1 := hB.setCell (p := ⟨w1.heap.size, j, none⟩) sz1 (.int .u8 (UInt8.ofNat ((R.getD j 0).toNat ||| 2 ^ s)).toNat)
          have x1 := x.other (a := ⟨w1.heap.size, j, none⟩) hne (.int .u8 (UInt8.ofNat ((R.getD j 0).toNat ||| 2 ^ s)).toNat)
          have hv := (R.getD j 0).toNat_lt
          have hp : 2 ^ s < 256 := Nat.pow_lt_pow_right (a := 2) (by omega) hs8
          have e3 : IntKind.u8.wrap ((2 : Int) ^ s) = ((2 ^ s : Nat) : Int) := by
            rw [IntKind.wrap_u8', show ((2 : Int) ^ s) = ((2 ^ s : Nat) : Int) by simp]
            exact Int.emod_eq_of_lt (Int.natCast_nonneg _) (Int.ofNat_lt.2 hp)
          have e4 : Go.bits .or .u8 ((R.getD j 0).toNat : Int) ((2 ^ s : Nat) : Int) = ((UInt8.ofNat ((R.getD j 0).toNat ||| 2 ^ s)).toNat : Int) := by rw [u8_or_nat _ _ (by omega) (by omega), byte_or _ _ hs8]
          generalize UInt8.ofNat ((R.getD j 0).toNat ||| 2 ^ s) = X at *
          generalize 2 ^ s = p at *
          generalize R.getD j 0 = v at *
          go_wp2_with fail
          go_region
          go_wp2_with fail
          go_roundw
          case rel => exact ⟨n + 1, by omega, by go_num, by rw [Hn.out]; exact b1.drew, x1.drew, hB1.drew⟩
          case measure => simp [intOf]; omega
      · obtain rfl : n = 64 := by omega
        have hR : bitRow (fun k => bits.getD k false) (Dm.flags true) 64 = TL := Htail.out.symm
        rw [hR] at b0 hrl
        clear hR Htail Hbit
        have hcv := run_convert_bytes_back (P := Tryz.prog) wr 151 9 5 ⟨w1.heap.size, 0, none⟩ 16 TL Tryz.underlying151 Tryz.underlying5 Tryz.underlying9 (fun i hi => by
          rw [add_at, Nat.zero_add, b0.cell]; simp [byteCells, hi])
        rw [htl] at hcv
        go_wp2_with fail
        go_at_call 99
        refine (pp _).mono ?_
        rintro e w2 ⟨rfl, hb2⟩
        replace hB := bt hB hb2
        go_wp2_with fail
        go_ret2
        exact ⟨⟨_, by rw [Hok.out]; rfl, fun h => (Hby.out h).symm⟩, hB⟩
theorem rt_writeMap (m : Dm) (h64 : m.bits.length = 64) (hm : m.name.length ≤ maxLen) (w : World) : Calls Tryz.prog 54 #[dmval m] w fun e w' => (∃ b, e = .returned (.tuple #[.string (bs b), .bool m.ok]) ∧ (m.ok = true → b = m.bytes)) ∧ Below w.heap.size w w' := by
  by_cases hz : m = Dm.zero
  · subst hz
    refine (rt_writeMap_zero w).mono ?_
    rintro e w' ⟨rfl, hb⟩
    exact ⟨⟨_, rfl, fun _ => rfl⟩, hb⟩
  · exact rt_writeMap_1 m h64 hm hz w
set_option maxRecDepth 100000 in
theorem r10_dmap_zero (w : World) : Calls Tryz.prog 55 #[dmval Dm.zero] w fun e w' => e = .returned (.tuple #[.string (bs (List.replicate 64 0)), .bool true]) ∧ Below w.heap.size w w' := by
  have c := fun W => r10_zeros 64 (by decide) W
  rw [show ((64 : Nat) : Int) = 64 from rfl] at c
  have a36 := Tryz.dm_agg
  have z36 := Tryz.dm_siz
  generalize List.replicate 64 (0 : UInt8) = T at *
  have hB := Below.refl w.heap.size w
  have x := Blk.new w 36 (dmCells Dm.zero).toArray
  have xk := Tryz.dm_all Dm.zero rfl x
  have hB_1 := hB.alloc hB.size (.cells (dmCells Dm.zero).toArray 36)
  go_enter Tryz.func55, Tryz.ntmps55
  go_wp2_with (first | (go_at_call 62; refine (c _).mono ?_; rintro e w1 ⟨rfl, hb1⟩) | (refine wpList_run rfl (dmval Dm.zero) (Tryz.run_dmz rfl _) ?_) | (refine wpList_run rfl (.bool true) (Tryz.run_dm _ _ _ rfl Dm.zero Dm.zero rfl rfl (by decide) rfl (by decide) rfl true (decide_eq_true rfl) _) ?_))
  replace hB := bt hB_1 hb1
  go_ret2
  exact ⟨rfl, hB⟩
set_option maxRecDepth 100000 in
set_option maxHeartbeats 1000000 in
theorem r10_dmap_1 (m : Dm) (h64 : m.bits.length = 64) (hm : m.name.length ≤ maxLen) (hz : m ≠ Dm.zero) (w : World) : Calls Tryz.prog 55 #[dmval m] w fun e w' => (∃ b, e = .returned (.tuple #[.string (bs b), .bool m.ok]) ∧ (m.ok = true → b = m.bytes)) ∧ Below w.heap.size w w' := by
  have cn := fun W => r3_name m.name hm W
  obtain ⟨N, en, hN⟩ : ∃ N en, nameR m.name = (N, en) := ⟨_, _, rfl⟩
  rw [hN] at cn
  simp only at cn
  have hname : nameOk m.name = false → en ≠ 0 := fun h => by rw [nameR, if_neg (by rw [h]; simp)] at hN; obtain ⟨_, rfl⟩ := Prod.mk.inj hN; decide
  have hnam2 : nameOk m.name = true → en = 0 ∧ N = m.name ++ List.replicate (8 - m.name.length) 0 := fun h => by rw [nameR, if_pos h] at hN; obtain ⟨a, b⟩ := Prod.mk.inj hN; exact ⟨b.symm, a.symm⟩
  have hNl : N.length ≤ 8 := by
    cases h : nameOk m.name with
    | true => rw [(hnam2 h).2]; have := nameOk_len h; simp; omega
    | false => rw [nameR, if_neg (by rw [h]; simp)] at hN; obtain ⟨rfl, _⟩ := Prod.mk.inj hN; simp
  have Hok := hid (show m.ok = decide (en = 0) by
    rw [Dm.ok, decide_eq_false hz, Bool.false_or]
    cases h : nameOk m.name with
    | true => rw [(hnam2 h).1]; rfl
    | false => exact (decide_eq_false (hname h)).symm)
  have Hby := hid (fun (h : m.ok = true) => show m.bytes = pad64 (N ++ m.tail) by
    rw [Dm.bytes, if_neg hz]
    rw [Dm.ok, decide_eq_false hz, Bool.false_or] at h
    rw [(hnam2 h).2])
  have pp := fun W => rpad_any (N ++ m.tail) (by rw [List.length_append, Dm.tail_length]; unfold maxLen; omega) 64 W
  have hp64 : (padR (N ++ m.tail) 64).1 = pad64 (N ++ m.tail) := by
    have := Dm.tail_length m
    rw [padR, if_neg (by rw [List.length_append]; omega)]
    rfl
  rw [hp64] at pp
  have a36 := Tryz.dm_agg
  have z36 := Tryz.dm_siz
  have htl := Dm.tail_length m
  have Htail := hid (show m.tail = bitRow (fun k => m.bits.getD k false) (Dm.flags m.use) 64 from rfl)
  generalize m.tail = TL at *
  generalize m.bytes = BY at *
  generalize m.ok = OK at *
  clear hname hnam2 hN hp64
  obtain ⟨name, use, bits⟩ := m
  simp only at h64 hm cn Htail
  have Hbit := hid (fun (k : Nat) (hk : k < 64) => show bits.getD k false = bits[k]'(by omega) by rw [List.getD_eq_getElem?_getD, List.getElem?_eq_getElem (by omega)]; rfl)
  by_cases hen : en = 0
  case neg =>
    have n1 : (en != 0) = true := bne_iff_ne.2 hen
    have Hf := hid (show OK = false by rw [Hok.out, decide_eq_false hen])
    clear hen pp
    have hB := Below.refl w.heap.size w
    have x := Blk.new w 36 (dmCells ⟨name, use, bits⟩).toArray
    have xk := Tryz.dm_all ⟨name, use, bits⟩ h64 x
    have hB_1 := hB.alloc hB.size (.cells (dmCells ⟨name, use, bits⟩).toArray 36)
    go_enter Tryz.func55, Tryz.ntmps55
    go_wp2_with (first | (refine wpList_run rfl (dmval Dm.zero) (Tryz.run_dmz rfl _) ?_) | (refine wpList_run rfl (.bool false) (Tryz.run_dm _ _ _ rfl ⟨name, use, bits⟩ Dm.zero rfl rfl hm h64 (by decide) rfl false (decide_eq_false hz) _) ?_))
    go_at_call 105
    refine (cn _).mono ?_
    rintro e w1 ⟨rfl, hb1⟩
    replace hB := bt hB_1 hb1
    go_wp2_with fail
    go_ret2
    exact ⟨⟨_, by rw [Hf.out]; rfl, fun h => absurd h (by rw [Hf.out]; simp)⟩, hB⟩
  subst hen
  have n0 : ((0 : Int) != 0) = false := rfl
  obtain ⟨i0, hi, hz0, hz1, hz2⟩ := info_parts Tryz.infoByte
  have hmk := fun W => run_make_rowN (P := Tryz.prog) 151 5 i0 (.int .u8 0) Tryz.underlying151 hi hz0 .i64 .i64 16 16 (Nat.le_refl _) (by rw [hz2]; omega) (by omega) W
  rw [hz1, Nat.mul_one] at hmk
  have hmade : madeCells (Value.int .u8 0).cells 16 = byteCells (List.replicate 16 0) := by
    apply Array.toList_inj.1
    show (madeCells #[.int .u8 0] 16).toList = _
    rw [toList_madeCells_one]; simp [byteCells]
  rw [hmade, show ((16 : Nat) : Int) = 16 from rfl] at hmk
  obtain ⟨Z0, hZ0⟩ : ∃ l : List UInt8, List.replicate 16 0 = l := ⟨_, rfl⟩
  rw [hZ0] at hmk
  have HZ := hid (show Dm.flags false = Z0 ∧ Dm.flags true = Z0.set 0 1 by rw [← hZ0]; exact ⟨rfl, rfl⟩)
  have lZ : Z0.length = 16 := by rw [← hZ0]; rfl
  clear hz0 hz1 hz2 hi hmade hZ0
  cases use with
  | false =>
    have hB := Below.refl w.heap.size w
    have x := Blk.new w 36 (dmCells ⟨name, false, bits⟩).toArray
    have xk := Tryz.dm_all ⟨name, false, bits⟩ h64 x
    have hB_1 := hB.alloc hB.size (.cells (dmCells ⟨name, false, bits⟩).toArray 36)
    go_enter Tryz.func55, Tryz.ntmps55
    go_wp2_with (first | (refine wpList_run rfl (dmval Dm.zero) (Tryz.run_dmz rfl _) ?_) | (refine wpList_run rfl (.bool false) (Tryz.run_dm _ _ _ rfl ⟨name, false, bits⟩ Dm.zero rfl rfl hm h64 (by decide) rfl false (decide_eq_false hz) _) ?_))
    go_at_call 105
    refine (cn _).mono ?_
    rintro e w1 ⟨rfl, hb1⟩
    replace hB := bt hB_1 hb1
    replace x := x.below hb1 (by simp)
    have lt1 := x.lt
    have hB0 := hB
    have x0 := x
    replace hB := hB.alloc hB.size (.cells (byteCells Z0) 5)
    replace x := x.alloc (.cells (byteCells Z0) 5)
    have b0 := Blk.new w1 5 (byteCells Z0)
    have sz1 : w.heap.size ≤ w1.heap.size := by omega
    replace xk := Tryz.dm_all ⟨name, false, bits⟩ h64 x
    have f0 := b0.frozen 0
    have c0 := b0.byte 0 (by omega)
    go_wp2_with fail
    replace b0 : Blk (w1.alloc (.cells (byteCells Z0) 5)) w1.heap.size 5 (byteCells (Dm.flags false)) := by rw [HZ.out.1]; exact b0
    go_loopw [7] (fun k W => ∃ n : Nat, n ≤ 64 ∧ k = .int .i64 n ∧ Blk W w1.heap.size 5 (byteCells (bitRow (fun k => bits.getD k false) (Dm.flags false) n)) ∧ Blk W w.heap.size 36 (dmCells ⟨name, false, bits⟩).toArray ∧ Below w.heap.size w W) (fun k _ => 64 - (intOf k).toNat)
    case atStart => exact ⟨0, Nat.zero_le _, rfl, b0, x, hB⟩
    case round =>
      clear xk x b0 hB
      obtain ⟨n, hn, rfl, b0, x, hB⟩ := hrel
      have hne : w.heap.size ≠ w1.heap.size := by omega
      have hrl : (bitRow (fun k => bits.getD k false) (Dm.flags false) n).length = 16 := by rw [bitRow_length, Dm.flags_length]
      by_cases hlt : n < 64
      · have hk := x.bit n (by rw [h64]; exact hlt)
        have hnext := bitRow_next (fun k => bits.getD k false) (Dm.flags false) n
        simp only [Hbit.out n hlt] at hnext
        simp only at hk
        generalize bits[n]'(by omega) = b at hk hnext
        cases b with
        | false =>
          rw [if_neg (by decide)] at hnext
          have Hn := hid hnext
          clear hnext
          go_wp2_with fail
          go_roundw
          case rel => exact ⟨n + 1, by omega, by go_num, by rw [Hn.out]; exact b0, x, hB⟩
          case measure => simp [intOf]; omega
        | true =>
          rw [if_pos rfl] at hnext
          obtain ⟨j, hj⟩ : ∃ j : Nat, 8 + n / 8 = j := ⟨_, rfl⟩
          obtain ⟨s, hs⟩ : ∃ s : Nat, n % 8 = s := ⟨_, rfl⟩
          have hj16 : j < 16 := by omega
          have hs8 : s < 8 := by omega
          have hs8' : ((s : Nat) : Int) ≤ 8 := by omega
          have e1 : (8 : Int) + (n : Int) / 8 = (j : Int) := by omega
          have e2 : (n : Int) % 8 = (s : Int) := by omega
          rw [hj, hs] at hnext
          have Hn := hid hnext
          clear hnext hj hs
          generalize bitRow (fun k => bits.getD k false) (Dm.flags false) n = R at *
          have c0 := b0.byte j (by omega)
          have f0 := b0.frozen j
          have b1 := blk_byte b0 j (UInt8.ofNat ((R.getD j 0).toNat ||| 2 ^ s))
          have hB1 := hB.setCell (p := ⟨w1.heap.size, j, none⟩) sz1 (.int .u8 (UInt8.ofNat ((R.getD j 0).toNat ||| 2 ^ s)).toNat)
          have x1 := x.other (a := ⟨w1.heap.size, j, none⟩) hne (.int .u8 (UInt8.ofNat ((R.getD j 0).toNat ||| 2 ^ s)).toNat)
          have hv := (R.getD j 0).toNat_lt
          have hp : 2 ^ s < 256 := Nat.pow_lt_pow_right (a := 2) (by omega) hs8
          have e3 : IntKind.u8.wrap ((2 : Int) ^ s) = ((2 ^ s : Nat) : Int) := by
            rw [IntKind.wrap_u8', show ((2 : Int) ^ s) = ((2 ^ s : Nat) : Int) by simp]
            exact Int.emod_eq_of_lt (Int.natCast_nonneg _) (Int.ofNat_lt.2 hp)
          have e4 : Go.bits .or .u8 ((R.getD j 0).toNat : Int) ((2 ^ s : Nat) : Int) = ((UInt8.ofNat ((R.getD j 0).toNat ||| 2 ^ s)).toNat : Int) := by rw [u8_or_nat _ _ (by omega) (by omega), byte_or _ _ hs8]
          generalize UInt8.ofNat ((R.getD j 0).toNat ||| 2 ^ s) = X at *
          generalize 2 ^ s = p at *
          generalize R.getD j 0 = v at *
          go_wp2_with fail
          go_region
          go_wp2_with fail
          go_roundw
          case rel => exact ⟨n + 1, by omega, by go_num, by rw [Hn.out]; exact b1.drew, x1.drew, hB1.drew⟩
          case measure => simp [intOf]; omega
      · obtain rfl : n = 64 := by omega
        have hR : bitRow (fun k => bits.getD k false) (Dm.flags false) 64 = TL := Htail.out.symm
        rw [hR] at b0 hrl
        clear hR Htail Hbit
        have hcv := run_convert_bytes_back (P := Tryz.prog) wr 151 9 5 ⟨w1.heap.size, 0, none⟩ 16 TL Tryz.underlying151 Tryz.underlying5 Tryz.underlying9 (fun i hi => by
          rw [add_at, Nat.zero_add, b0.cell]; simp [byteCells, hi])
        rw [htl] at hcv
        go_wp2_with fail
        go_at_call 101
        refine (pp _).mono ?_
        rintro e w2 ⟨rfl, hb2⟩
        replace hB := bt hB hb2
        go_wp2_with fail
        go_ret2
        exact ⟨⟨_, by rw [Hok.out]; rfl, fun h => (Hby.out h).symm⟩, hB⟩
  | true =>
    have hB := Below.refl w.heap.size w
    have x := Blk.new w 36 (dmCells ⟨name, true, bits⟩).toArray
    have xk := Tryz.dm_all ⟨name, true, bits⟩ h64 x
    have hB_1 := hB.alloc hB.size (.cells (dmCells ⟨name, true, bits⟩).toArray 36)
    go_enter Tryz.func55, Tryz.ntmps55
    go_wp2_with (first | (refine wpList_run rfl (dmval Dm.zero) (Tryz.run_dmz rfl _) ?_) | (refine wpList_run rfl (.bool false) (Tryz.run_dm _ _ _ rfl ⟨name, true, bits⟩ Dm.zero rfl rfl hm h64 (by decide) rfl false (decide_eq_false hz) _) ?_))
    go_at_call 105
    refine (cn _).mono ?_
    rintro e w1 ⟨rfl, hb1⟩
    replace hB := bt hB_1 hb1
    replace x := x.below hb1 (by simp)
    have lt1 := x.lt
    have hB0 := hB
    have x0 := x
    replace hB := hB.alloc hB.size (.cells (byteCells Z0) 5)
    replace x := x.alloc (.cells (byteCells Z0) 5)
    have b0 := Blk.new w1 5 (byteCells Z0)
    have sz1 : w.heap.size ≤ w1.heap.size := by omega
    replace xk := Tryz.dm_all ⟨name, true, bits⟩ h64 x
    have f0 := b0.frozen 0
    have c0 := b0.byte 0 (by omega)
    go_wp2_with fail
    replace hB := hB0.alloc hB0.size (.cells ((byteCells Z0).setIfInBounds 0 (.int .u8 1)) 5)
    replace x := x0.alloc (.cells ((byteCells Z0).setIfInBounds 0 (.int .u8 1)) 5)
    clear b0
    have b0 := Blk.new w1 5 ((byteCells Z0).setIfInBounds 0 (.int .u8 1))
    replace b0 : Blk (w1.alloc (.cells ((byteCells Z0).setIfInBounds 0 (.int .u8 1)) 5)) w1.heap.size 5 (byteCells (Dm.flags true)) := by rw [HZ.out.2, ← byteCells_set]; exact b0
    go_loopw [7] (fun k W => ∃ n : Nat, n ≤ 64 ∧ k = .int .i64 n ∧ Blk W w1.heap.size 5 (byteCells (bitRow (fun k => bits.getD k false) (Dm.flags true) n)) ∧ Blk W w.heap.size 36 (dmCells ⟨name, true, bits⟩).toArray ∧ Below w.heap.size w W) (fun k _ => 64 - (intOf k).toNat)
    case atStart => exact ⟨0, Nat.zero_le _, rfl, b0, x, hB⟩
    case round =>
      clear xk x b0 hB
      obtain ⟨n, hn, rfl, b0, x, hB⟩ := hrel
      have hne : w.heap.size ≠ w1.heap.size := by omega
      have hrl : (bitRow (fun k => bits.getD k false) (Dm.flags true) n).length = 16 := by rw [bitRow_length, Dm.flags_length]
      by_cases hlt : n < 64
      · have hk := x.bit n (by rw [h64]; exact hlt)
        have hnext := bitRow_next (fun k => bits.getD k false) (Dm.flags true) n
        simp only [Hbit.out n hlt] at hnext
        simp only at hk
        generalize bits[n]'(by omega) = b at hk hnext
        cases b with
        | false =>
          rw [if_neg (by decide)] at hnext
          have Hn := hid hnext
          clear hnext
          go_wp2_with fail
          go_roundw
          case rel => exact ⟨n + 1, by omega, by go_num, by rw [Hn.out]; exact b0, x, hB⟩
          case measure => simp [intOf]; omega
        | true =>
          rw [if_pos rfl] at hnext
          obtain ⟨j, hj⟩ : ∃ j : Nat, 8 + n / 8 = j := ⟨_, rfl⟩
          obtain ⟨s, hs⟩ : ∃ s : Nat, n % 8 = s := ⟨_, rfl⟩
          have hj16 : j < 16 := by omega
          have hs8 : s < 8 := by omega
          have hs8' : ((s : Nat) : Int) ≤ 8 := by omega
          have e1 : (8 : Int) + (n : Int) / 8 = (j : Int) := by omega
          have e2 : (n : Int) % 8 = (s : Int) := by omega
          rw [hj, hs] at hnext
          have Hn := hid hnext
          clear hnext hj hs
          generalize bitRow (fun k => bits.getD k false) (Dm.flags true) n = R at *
          have c0 := b0.byte j (by omega)
          have f0 := b0.frozen j
          have b1 := blk_byte b0 j (UInt8.ofNat ((R.getD j 0).toNat ||| 2 ^ s))
          have hB1 := hB.setCell (p := ⟨w1.heap.size, j, none⟩) sz1 (.int .u8 (UInt8.ofNat ((R.getD j 0).toNat ||| 2 ^ s)).toNat)
          have x1 := x.other (a := ⟨w1.heap.size, j, none⟩) hne (.int .u8 (UInt8.ofNat ((R.getD j 0).toNat ||| 2 ^ s)).toNat)
          have hv := (R.getD j 0).toNat_lt
          have hp : 2 ^ s < 256 := Nat.pow_lt_pow_right (a := 2) (by omega) hs8
          have e3 : IntKind.u8.wrap ((2 : Int) ^ s) = ((2 ^ s : Nat) : Int) := by
            rw [IntKind.wrap_u8', show ((2 : Int) ^ s) = ((2 ^ s : Nat) : Int) by simp]
            exact Int.emod_eq_of_lt (Int.natCast_nonneg _) (Int.ofNat_lt.2 hp)
          have e4 : Go.bits .or .u8 ((R.getD j 0).toNat : Int) ((2 ^ s : Nat) : Int) = ((UInt8.ofNat ((R.getD j 0).toNat ||| 2 ^ s)).toNat : Int) := by rw [u8_or_nat _ _ (by omega) (by omega), byte_or _ _ hs8]
          generalize UInt8.ofNat ((R.getD j 0).toNat ||| 2 ^ s) = X at *
          generalize 2 ^ s = p at *
          generalize R.getD j 0 = v at *
          go_wp2_with fail
          go_region
          go_wp2_with fail
          go_roundw
          case rel => exact ⟨n + 1, by omega, by go_num, by rw [Hn.out]; exact b1.drew, x1.drew, hB1.drew⟩
          case measure => simp [intOf]; omega
      · obtain rfl : n = 64 := by omega
        have hR : bitRow (fun k => bits.getD k false) (Dm.flags true) 64 = TL := Htail.out.symm
        rw [hR] at b0 hrl
        clear hR Htail Hbit
        have hcv := run_convert_bytes_back (P := Tryz.prog) wr 151 9 5 ⟨w1.heap.size, 0, none⟩ 16 TL Tryz.underlying151 Tryz.underlying5 Tryz.underlying9 (fun i hi => by
          rw [add_at, Nat.zero_add, b0.cell]; simp [byteCells, hi])
        rw [htl] at hcv
        go_wp2_with fail
        go_at_call 101
        refine (pp _).mono ?_
        rintro e w2 ⟨rfl, hb2⟩
        replace hB := bt hB hb2
        go_wp2_with fail
        go_ret2
        exact ⟨⟨_, by rw [Hok.out]; rfl, fun h => (Hby.out h).symm⟩, hB⟩
theorem r10_dmap (m : Dm) (h64 : m.bits.length = 64) (hm : m.name.length ≤ maxLen) (w : World) : Calls Tryz.prog 55 #[dmval m] w fun e w' => (∃ b, e = .returned (.tuple #[.string (bs b), .bool m.ok]) ∧ (m.ok = true → b = m.bytes)) ∧ Below w.heap.size w w' := by
  by_cases hz : m = Dm.zero
  · subst hz
    refine (r10_dmap_zero w).mono ?_
    rintro e w' ⟨rfl, hb⟩
    exact ⟨⟨_, rfl, fun _ => rfl⟩, hb⟩
  · exact r10_dmap_1 m h64 hm hz w
end Go.Proofs.YtjhnaeomaigimaaGreatDoor
