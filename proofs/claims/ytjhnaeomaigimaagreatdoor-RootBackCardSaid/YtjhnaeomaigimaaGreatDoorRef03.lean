/- Package cofferdamref03: names. -/
import Derived.Test.YtjhnaeomaigimaaGreatDoorPackName
import Derived.Test.YtjhnaeomaigimaaGreatDoorRegs
set_option linter.unusedVariables false
namespace Go.Proofs.YtjhnaeomaigimaaGreatDoor
open Go.RowKit Go.Shelf
attribute [local go_sem] bs_mk bs_append bs_extract bs_size bs_toList bs_get
theorem nameOk_no {s : List UInt8} {i : Nat} (hi : i < s.length) (h : okByte s[i] = false) : nameOk s = false := by
  have : s.all okByte = false := by
    rw [List.all_eq_false]
    exact ⟨s[i], List.getElem_mem hi, by rw [h]; simp⟩
  simp [nameOk, this]
theorem nameOk_all {s : List UInt8} (h : ∀ j (hj : j < s.length), okByte s[j] = true) : nameOk s = (!s.isEmpty && decide (s.length ≤ 8)) := by
  have : s.all okByte = true := by
    rw [List.all_eq_true]
    intro x hx
    obtain ⟨j, hj, rfl⟩ := List.getElem_of_mem hx
    exact h j hj
  simp [nameOk, this]
set_option maxRecDepth 100000 in
theorem r3_named (s : List UInt8) (hm : s.length ≤ maxLen) (w : World) :
    Calls Tryz.prog 27 #[.string (bs s)] w fun e w' => e = .returned (.bool (nameOk s)) ∧ w = w' := by
  have hm' := hm
  unfold maxLen at hm'
  go_enter Tryz.func27, Tryz.ntmps27
  go_wp2_with fail
  go_loop [3] (fun x => ∃ i : Nat, i ≤ s.length ∧ x = .int .i64 i ∧ Hid (∀ j (hj : j < s.length), j < i → okByte s[j] = true)) (fun x => s.length - (intOf x).toNat)
  case atStart => exact ⟨0, Nat.zero_le _, rfl, hid (fun j hj h0 => by omega)⟩
  case round =>
    obtain ⟨i, hi, rfl, hok⟩ := hrel
    by_cases hlt : i < s.length
    · have hb := (s[i]).toNat_lt
      by_cases h1 : s[i].toNat < 33
      · have d1 : decide ((s[i].toNat : Int) < 33) = true := decide_eq_true (by omega)
        have Hw := hid (nameOk_no hlt (by unfold okByte; rw [decide_eq_false (by omega)]; rfl))
        go_wp2_with fail
        go_ret
        exact ⟨by rw [Hw.out]; rfl, rfl⟩
      · have d1 : decide ((s[i].toNat : Int) < 33) = false := decide_eq_false (by omega)
        by_cases h2 : 126 < s[i].toNat
        · have d2 : decide ((126 : Int) < (s[i].toNat : Int)) = true := decide_eq_true (by omega)
          have Hw := hid (nameOk_no hlt (by unfold okByte; rw [decide_eq_true (by omega), decide_eq_false (by omega)]; rfl))
          go_wp2_with fail
          go_ret
          exact ⟨by rw [Hw.out]; rfl, rfl⟩
        · have d2 : decide ((126 : Int) < (s[i].toNat : Int)) = false := decide_eq_false (by omega)
          have Hy := hid (show okByte s[i] = true by unfold okByte; rw [decide_eq_true (by omega), decide_eq_true (by omega)]; rfl)
          go_wp2_with fail
          go_round
          case rel => exact ⟨i + 1, by omega, by go_num, hid (fun j hj hji => by
            rcases Nat.lt_or_ge j i with h' | h'
            · exact hok.out j hj h'
            · obtain rfl : j = i := by omega
              exact Hy.out)⟩
          case measure => simp [intOf]; omega
    · have Hw := hid (nameOk_all fun j hj => hok.out j hj (by omega))
      clear hok
      obtain rfl : i = s.length := by omega
      by_cases hs : s = []
      · subst hs
        go_wp2_with fail
        go_ret
        exact ⟨by rw [Hw.out]; rfl, rfl⟩
      · have hse : s.isEmpty = false := by cases s with
          | nil => exact absurd rfl hs
          | cons a l => rfl
        have d3 : (s == []) = false := by cases s with
          | nil => exact absurd rfl hs
          | cons a l => rfl
        have d4 : (s != []) = true := by cases s with
          | nil => exact absurd rfl hs
          | cons a l => rfl
        by_cases h8 : s.length ≤ 8
        · have d1 : decide ((s.length : Int) ≤ 8) = true := decide_eq_true (by omega)
          have d2 : decide (s.length ≤ 8) = true := decide_eq_true h8
          have Hw2 := hid (show nameOk s = true by rw [Hw.out, d2, hse]; rfl)
          clear hs hse
          go_wp2_with fail
          go_ret
          exact ⟨by rw [Hw2.out]; rfl, rfl⟩
        · have d1 : decide ((s.length : Int) ≤ 8) = false := decide_eq_false (by omega)
          have d2 : decide (s.length ≤ 8) = false := decide_eq_false h8
          have Hw2 := hid (show nameOk s = false by rw [Hw.out, d2]; simp)
          clear hs hse
          go_wp2_with fail
          go_ret
          exact ⟨by rw [Hw2.out]; rfl, rfl⟩
theorem r3_name (l : List UInt8) (hm : l.length ≤ maxLen) (w : World) :
    Calls Tryz.prog 105 #[.string (bs l)] w fun e w' => e = .returned (.tuple #[.string (bs (nameR l).1), .int .i64 (nameR l).2]) ∧ Below w.heap.size w w' := by
  have hn := fun W => r3_named l hm W
  have hp := fun W => rpad_any l hm 8 W
  by_cases h : nameOk l = true
  · have hl := nameOk_len h
    have Hw := hid (show nameR l = (l ++ List.replicate (8 - l.length) 0, 0) by rw [nameR, if_pos h])
    rw [h] at hn
    rw [show padR l 8 = (l ++ List.replicate (8 - l.length) 0, 0) by rw [padR, if_neg (by omega)]; rfl] at hp
    generalize l ++ List.replicate (8 - l.length) 0 = T at *
    clear h
    have hB := Below.refl w.heap.size w
    go_enter Tryz.func105, Tryz.ntmps105
    go_wp2_with fail
    go_at_call 27
    refine ((hn _)).mono ?_
    rintro e w' ⟨rfl, rfl⟩
    go_wp2_with fail
    go_at_call 101
    refine ((hp _)).mono ?_
    rintro e w2 ⟨rfl, hb2⟩
    replace hB := bt hB hb2
    go_wp2_with fail
    go_ret2
    exact ⟨by rw [Hw.out]; rfl, hB⟩
  · have Hw := hid (show nameR l = ([], 19) by rw [nameR, if_neg h])
    rw [show nameOk l = false by simpa using h] at hn
    clear h
    go_enter Tryz.func105, Tryz.ntmps105
    go_wp2_with fail
    go_at_call 27
    refine ((hn _)).mono ?_
    rintro e w' ⟨rfl, rfl⟩
    go_wp2_with fail
    go_ret2
    exact ⟨by rw [Hw.out]; rfl, Below.refl _ _⟩
theorem trim0_take (s : List UInt8) (n : Nat) (hn : n ≤ s.length) (hz : ∀ j (hj : j < s.length), n ≤ j → s[j] = 0) (h : n = 0 ∨ ∃ hk : n - 1 < s.length, s[n - 1] ≠ 0) : trim0 s = s.take n := by
  have e : s = s.take n ++ List.replicate (s.length - n) 0 := by
    apply List.ext_getElem
    · simp; omega
    · intro j h1 h2
      by_cases hj : j < n
      · rw [List.getElem_append_left (by simp; omega), List.getElem_take]
      · rw [List.getElem_append_right (by simp; omega), List.getElem_replicate, hz j h1 (by omega)]
  have h3 : trim0 (s.take n ++ List.replicate (s.length - n) 0) = trim0 (s.take n) := by
    rw [trim0, trim0, Lib.trimRightB, Lib.trimRightB, List.reverse_append, List.reverse_replicate, dropWhile_zeros]
  rw [← e] at h3
  rw [h3]
  rcases h with rfl | ⟨hk, hne⟩
  · rfl
  · rcases Nat.eq_zero_or_pos n with rfl | hp
    · rfl
    · obtain ⟨m, rfl⟩ : ∃ m, n = m + 1 := ⟨n - 1, by omega⟩
      rw [List.take_succ_eq_append_getElem (by omega)]
      rw [trim0, Lib.trimRightB, List.reverse_append, List.reverse_singleton, List.singleton_append, List.dropWhile_cons, if_neg (by simpa using hne), List.reverse_cons, List.reverse_reverse]
set_option maxRecDepth 100000 in
theorem r3_toName (s : List UInt8) (hm : s.length ≤ maxLen) (w : World) :
    Calls Tryz.prog 63 #[.string (bs s)] w fun e w' => e = .returned (.tuple #[.string (bs (toNameR s).1), .int .i64 (toNameR s).2]) ∧ w = w' := by
  have hm' := hm
  unfold maxLen at hm'
  by_cases h8 : s.length = 8
  · have hn := fun W n => r3_named (s.take n) (by rw [List.length_take]; omega) W
    have Hn := hid hn
    have Hw := hid (show toNameR s = if nameOk (trim0 s) = true then (trim0 s, 0) else ([], 19) by rw [toNameR, if_neg (by omega)])
    clear hn
    go_enter Tryz.func63, Tryz.ntmps63
    go_wp2_with fail
    simp only [bs_nil]
    go_loop [4] (fun x => ∃ n : Nat, n ≤ s.length ∧ x = .int .i64 n ∧ Hid (∀ j (hj : j < s.length), n ≤ j → s[j] = 0)) (fun x => (intOf x).toNat)
    case atStart => exact ⟨s.length, Nat.le_refl _, by rw [h8]; rfl, hid (fun j hj h0 => by omega)⟩
    case round =>
      obtain ⟨n, hn, rfl, hz⟩ := hrel
      by_cases h0 : 0 < n
      · have hlt : n - 1 < s.length := by omega
        have hw1 : IntKind.i64.wrap ((n : Int) - 1) = ((n - 1 : Nat) : Int) := by rw [i64w (by omega)]; omega
        have hb := (s[n - 1]).toNat_lt
        have d0 : decide ((0 : Int) < (n : Int)) = true := decide_eq_true (by omega)
        by_cases hc : s[n - 1] = 0
        · have d1 : ((s[n - 1].toNat : Int) == 0) = true := by rw [hc]; rfl
          have Hz := hid (fun j (hj : j < s.length) (h : n - 1 ≤ j) => show s[j] = 0 by
            rcases Nat.lt_or_ge j n with h' | h'
            · obtain rfl : j = n - 1 := by omega
              exact hc
            · exact hz.out j hj h')
          clear hc hz
          go_wp2_with fail
          go_round
          case rel => exact ⟨n - 1, by omega, (by first | rfl | go_num), Hz⟩
          case measure => simp [intOf]; omega
        · have d1 : ((s[n - 1].toNat : Int) == 0) = false := by
            rw [beq_eq_false_iff_ne]
            intro e
            exact hc (UInt8.toNat_inj.1 (by simpa using e))
          have hlast : n = 0 ∨ ∃ hk : n - 1 < s.length, s[n - 1] ≠ 0 := .inr ⟨hlt, hc⟩
          clear hc
          have Ht := hid (trim0_take s n hn hz.out hlast)
          have hN := Hn.out w n
          by_cases hk : nameOk (s.take n) = true
          · have Hw2 := hid (show toNameR s = (s.take n, 0) by rw [Hw.out, Ht.out, if_pos hk])
            rw [hk] at hN
            clear hk hz
            go_wp2_with fail
            go_at_call 27
            refine hN.mono ?_
            rintro e w' ⟨rfl, rfl⟩
            go_wp2_with fail
            go_ret2
            exact ⟨by rw [Hw2.out]; rfl, rfl⟩
          · have Hw2 := hid (show toNameR s = ([], 19) by rw [Hw.out, Ht.out, if_neg hk])
            rw [show nameOk (s.take n) = false by simpa using hk] at hN
            clear hk hz
            go_wp2_with fail
            go_at_call 27
            refine hN.mono ?_
            rintro e w' ⟨rfl, rfl⟩
            go_wp2_with fail
            go_ret2
            exact ⟨by rw [Hw2.out]; rfl, rfl⟩
      · have d0 : decide ((0 : Int) < (n : Int)) = false := decide_eq_false (by omega)
        have hlast : n = 0 ∨ ∃ hk : n - 1 < s.length, s[n - 1] ≠ 0 := .inl (by omega)
        have Ht := hid (trim0_take s n hn hz.out hlast)
        have hN := Hn.out w n
        by_cases hk : nameOk (s.take n) = true
        · have Hw2 := hid (show toNameR s = (s.take n, 0) by rw [Hw.out, Ht.out, if_pos hk])
          rw [hk] at hN
          clear hk hz
          go_wp2_with fail
          go_at_call 27
          refine hN.mono ?_
          rintro e w' ⟨rfl, rfl⟩
          go_wp2_with fail
          go_ret2
          exact ⟨by rw [Hw2.out]; rfl, rfl⟩
        · have Hw2 := hid (show toNameR s = ([], 19) by rw [Hw.out, Ht.out, if_neg hk])
          rw [show nameOk (s.take n) = false by simpa using hk] at hN
          clear hk hz
          go_wp2_with fail
          go_at_call 27
          refine hN.mono ?_
          rintro e w' ⟨rfl, rfl⟩
          go_wp2_with fail
          go_ret2
          exact ⟨by rw [Hw2.out]; rfl, rfl⟩
  · have Hw := hid (show toNameR s = ([], 11) by rw [toNameR, if_pos h8])
    have d1 : ((s.length : Int) != 8) = true := bne_iff_ne.2 (by omega)
    clear h8
    go_enter Tryz.func63, Tryz.ntmps63
    go_wp2_with fail
    go_ret2
    exact ⟨by rw [Hw.out]; rfl, rfl⟩
set_option maxRecDepth 100000 in
theorem r10_zeros (n : Nat) (hn : n ≤ 100) (w : World) : Calls Tryz.prog 62 #[.int .i64 n] w fun e w' => e = .returned (.string (bs (List.replicate n 0))) ∧ Below w.heap.size w w' := by
  obtain ⟨i0, hi, hz0, hz1, hz2⟩ := info_parts Tryz.infoByte
  have hmk := fun W => run_make_rowN (P := Tryz.prog) 151 5 i0 (.int .u8 0) Tryz.underlying151 hi hz0 .i64 .i64 n n (Nat.le_refl _) (by rw [hz2]; omega) (by omega) W
  rw [hz1, Nat.mul_one] at hmk
  have hcv := run_convert_bytes_back (P := Tryz.prog) (w.alloc (.cells (madeCells #[.int .u8 0] n) 5)) 151 9 5 ⟨w.heap.size, 0, none⟩ n (List.replicate n 0) Tryz.underlying151 Tryz.underlying5 Tryz.underlying9 (fun j hj => by
    have hj' : j < n := by simpa using hj
    have e : (Addr.add ⟨w.heap.size, 0, none⟩ j) = ⟨w.heap.size, j, none⟩ := by simp only [Addr.add]; split <;> simp_all
    rw [e, (Blk.new w _ _).cell j, ← Array.getElem?_toList, toList_madeCells_one]; simp [hj'])
  rw [List.length_replicate, bs_mk] at hcv
  go_enter Tryz.func62, Tryz.ntmps62
  go_wp2_with fail
  go_ret
  exact ⟨rfl, (Below.refl _ _).alloc (Nat.le_refl _) _⟩
end Go.Proofs.YtjhnaeomaigimaaGreatDoor
