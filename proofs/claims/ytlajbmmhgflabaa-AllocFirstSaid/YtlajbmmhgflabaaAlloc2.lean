/- Package alloc and the document's ref09: how many clusters are in use. -/
import Derived.Test.YtlajbmmhgflabaaAlloc1
import Derived.Test.YtlajbmmhgflabaaRefc3
set_option linter.unusedVariables false
namespace Go.Proofs.Ytlajbmmhgflabaa
open Go.RowKit Go.Shelf
attribute [local go_sem] bs_mk bs_append bs_extract bs_size bs_toList bs_get
theorem Pn.used_next (l : List Int) (i : Nat) (hi : i < l.length) : Pn.usedIn (l.take (i + 1)) = Pn.usedIn (l.take i) + (if l[i] = 0 then 0 else 1) := by
  unfold Pn.usedIn
  rw [List.take_succ_eq_append_getElem hi, List.countP_append]
  by_cases h : l[i] = 0 <;> simp [h]
theorem Pn.used_le (l : List Int) (i : Nat) : 0 ≤ Pn.usedIn (l.take i) ∧ Pn.usedIn (l.take i) ≤ i := by
  unfold Pn.usedIn
  have := List.countP_le_length (p := (fun x : Int => decide (x ≠ 0))) (l := l.take i)
  have h2 := List.length_take_le i l
  omega

set_option maxRecDepth 100000 in
set_option maxHeartbeats 1000000 in
theorem r9_used (D : Dk) (L : Pn) (p q p' q' : Pl) (w : World) (hD : IsDk w D p q) (hL : IsPn w L p' q') (hf : D.fit = true) (hfl : L.Fit) (g : Int) (h : Nat) (hh : h ≤ 256) :
    Calls Try.prog 45 #[dval D p q, pval L p' q', gval g h] w fun e w' => e = .returned (.tuple #[.int .i64 (Pn.alUsed D L h).1, .int .i64 (Pn.alUsed D L h).2]) ∧ Below w.heap.size w w' := by
  have ha := fun (W : World) (hb : Below w.heap.size w W) => r8_all D L p q p' q' W (hD.below hb) (hL.below hb) hf hfl h
  have hln := Pn.cntAll_len (D := D) (L := L) h
  have hbd := Pn.cntAll_bound (D := D) (L := L) h
  have Hu := hid (show Pn.alUsed D L h = (Pn.usedIn (Pn.cntAll D L h).1, (Pn.cntAll D L h).2) from rfl)
  generalize Pn.cntAll D L h = S at ha hln hbd Hu
  obtain ⟨l, er⟩ := S
  simp only at ha hln hbd Hu
  clear hD hL hf hfl
  obtain ⟨A1, a1⟩ := p
  obtain ⟨A2, a2⟩ := q
  obtain ⟨B1, b1⟩ := p'
  obtain ⟨B2, b2⟩ := q'
  have hB := Below.refl w.heap.size w
  have x := Blk.new w 25 #[.string (bs D.data), .slice A1 D.cache.length a1, .int .i64 D.fuse, .bool D.off, .slice A2 D.bad.length a2]
  have xk := blk5 x
  have hB_1 := hB.alloc hB.size (.cells #[.string (bs D.data), .slice A1 D.cache.length a1, .int .i64 D.fuse, .bool D.off, .slice A2 D.bad.length a2] 25)
  have z := Blk.new (w.alloc (.cells #[.string (bs D.data), .slice A1 D.cache.length a1, .int .i64 D.fuse, .bool D.off, .slice A2 D.bad.length a2] 25)) 28 #[.slice B1 L.targets.length b1, .slice B2 L.data.length b2]
  simp only [World.size_alloc] at z
  have zk := blk2 z
  have hB_2 := hB_1.alloc hB_1.size (.cells #[.slice B1 L.targets.length b1, .slice B2 L.data.length b2] 28)
  have x_3 := x.alloc (.cells #[.slice B1 L.targets.length b1, .slice B2 L.data.length b2] 28)
  have xk_3 := blk5 x_3
  have y := Blk.new ((w.alloc (.cells #[.string (bs D.data), .slice A1 D.cache.length a1, .int .i64 D.fuse, .bool D.off, .slice A2 D.bad.length a2] 25)).alloc (.cells #[.slice B1 L.targets.length b1, .slice B2 L.data.length b2] 28)) 67 #[.int .i64 g, .int .i64 h]
  simp only [World.size_alloc] at y
  have yk := blk2 y
  have hB_4 := hB_2.alloc hB_2.size (.cells #[.int .i64 g, .int .i64 h] 67)
  have x_5 := x_3.alloc (.cells #[.int .i64 g, .int .i64 h] 67)
  have xk_5 := blk5 x_5
  have z_6 := z.alloc (.cells #[.int .i64 g, .int .i64 h] 67)
  have zk_6 := blk2 z_6
  go_enter Try.func45, Try.ntmps45
  go_wp2_with fail
  go_at_call 21
  refine ((ha _ hB_4)).mono ?_
  rintro e w1 ⟨⟨v1, rfl, own1⟩, hb1⟩
  replace hB := bt hB_4 hb1
  replace x := x_5.below hb1 x_5.lt
  replace xk := blk5 x
  replace z := z_6.below hb1 z_6.lt
  replace zk := blk2 z
  replace y := y.below hb1 y.lt
  replace yk := blk2 y
  clear hB_1 hB_2 xk_3 x_3 hB_4 xk_5 x_5 zk_6 z_6
  obtain ⟨C1, c1, rfl, _⟩ := own_slice own1
  have cc := Cells.of_own own1
  cases l with
  | nil =>
    go_wp2_with fail
    go_loopw [10, 11] (fun n x W => n = .int .i64 0 ∧ x = .int .i64 0 ∧ Below w.heap.size w W) (fun n x _ => 0)
    case atStart => exact ⟨rfl, rfl, hB⟩
    case round =>
      obtain ⟨rfl, rfl, hB⟩ := hrel
      go_wp2_with fail
      go_ret2
      rw [Hu.out]
      exact ⟨rfl, hB⟩
  | cons a0 l0 =>
  obtain ⟨bb, ob, rfl, hcell⟩ := cc.int (i := 0) (by simp)
  generalize hm : a0 :: l0 = m at *
  have HC := hid (fun (W : World) (hb : Below w1.heap.size w1 W) (j : Nat) (hj : j < m.length) => cell_below hb (hcell j hj))
  have Hbd := hid (fun (j : Nat) (hj : j < m.length) => hbd m[j] (List.getElem_mem hj))
  clear hm hcell cc own1 hbd
  go_wp2_with fail
  go_loopw [10, 11] (fun n x W => ∃ i : Nat, i ≤ m.length ∧ n = .int .i64 (Pn.usedIn (m.take i)) ∧ x = .int .i64 i ∧ Below w1.heap.size w1 W) (fun n x _ => m.length - (intOf x).toNat)
  case atStart => exact ⟨0, Nat.zero_le _, rfl, rfl, Below.refl _ _⟩
  case round =>
    obtain ⟨i, hi, rfl, rfl, hb⟩ := hrel
    have hul := Pn.used_le m i
    by_cases hlt : i < m.length
    · have k0 := HC.out _ hb i hlt
      have hv := Hbd.out i hlt
      have hnx := hid (Pn.used_next m i hlt)
      by_cases hz : m[i] = 0
      · rw [hz] at k0
        have hn2 := hid (show Pn.usedIn (m.take (i + 1)) = Pn.usedIn (m.take i) by rw [hnx.out, if_pos hz]; omega)
        clear hz hv
        generalize Pn.usedIn (m.take i) = u at hn2 hul ⊢
        go_wp2_with fail
        go_roundw
        case rel => exact ⟨i + 1, by omega, by rw [hn2.out]; try (congr 1; omega), by go_num, hb⟩
        case measure => simp [intOf]; omega
      · have hn2 := hid (show Pn.usedIn (m.take (i + 1)) = Pn.usedIn (m.take i) + 1 by rw [hnx.out, if_neg hz])
        have hz1 : (m[i] != 0) = true := by simpa using hz
        have hz2 : 1 ≤ m[i] := by omega
        have hz3 : min m[i] 1 = 1 := by omega
        generalize m[i] = c at k0 hz1 hz2 hz3 hv
        clear hz
        generalize Pn.usedIn (m.take i) = u at hn2 hul ⊢
        go_wp2_with fail
        go_roundw
        case rel => exact ⟨i + 1, by omega, by rw [hn2.out]; try (congr 1; omega), by go_num, hb⟩
        case measure => simp [intOf]; omega
    · obtain rfl : i = m.length := by omega
      have Hm := hid (List.take_length (l := m))
      go_wp2_with fail
      go_ret2
      rw [Hu.out, Hm.out]
      exact ⟨rfl, bt hB hb⟩
set_option maxRecDepth 100000 in
set_option maxHeartbeats 1000000 in
theorem al_used (D : Dk) (L : Pn) (p q p' q' : Pl) (w : World) (hD : IsDk w D p q) (hL : IsPn w L p' q') (hf : D.fit = true) (hfl : L.Fit) (g : Int) (h : Nat) (hh : h ≤ 256) :
    Calls Try.prog 44 #[dval D p q, pval L p' q', gval g h] w fun e w' => e = .returned (.tuple #[.int .i64 (Pn.alUsed D L h).1, .int .i64 (Pn.alUsed D L h).2]) ∧ Below w.heap.size w w' := by
  have ha := fun (W : World) (hb : Below w.heap.size w W) => rc_all D L p q p' q' W (hD.below hb) (hL.below hb) hf hfl h
  have hln := Pn.cntAll_len (D := D) (L := L) h
  have hbd := Pn.cntAll_bound (D := D) (L := L) h
  have Hu := hid (show Pn.alUsed D L h = (Pn.usedIn (Pn.cntAll D L h).1, (Pn.cntAll D L h).2) from rfl)
  generalize Pn.cntAll D L h = S at ha hln hbd Hu
  obtain ⟨l, er⟩ := S
  simp only at ha hln hbd Hu
  clear hD hL hf hfl
  obtain ⟨A1, a1⟩ := p
  obtain ⟨A2, a2⟩ := q
  obtain ⟨B1, b1⟩ := p'
  obtain ⟨B2, b2⟩ := q'
  have hB := Below.refl w.heap.size w
  have x := Blk.new w 25 #[.string (bs D.data), .slice A1 D.cache.length a1, .int .i64 D.fuse, .bool D.off, .slice A2 D.bad.length a2]
  have xk := blk5 x
  have hB_1 := hB.alloc hB.size (.cells #[.string (bs D.data), .slice A1 D.cache.length a1, .int .i64 D.fuse, .bool D.off, .slice A2 D.bad.length a2] 25)
  have z := Blk.new (w.alloc (.cells #[.string (bs D.data), .slice A1 D.cache.length a1, .int .i64 D.fuse, .bool D.off, .slice A2 D.bad.length a2] 25)) 28 #[.slice B1 L.targets.length b1, .slice B2 L.data.length b2]
  simp only [World.size_alloc] at z
  have zk := blk2 z
  have hB_2 := hB_1.alloc hB_1.size (.cells #[.slice B1 L.targets.length b1, .slice B2 L.data.length b2] 28)
  have x_3 := x.alloc (.cells #[.slice B1 L.targets.length b1, .slice B2 L.data.length b2] 28)
  have xk_3 := blk5 x_3
  have y := Blk.new ((w.alloc (.cells #[.string (bs D.data), .slice A1 D.cache.length a1, .int .i64 D.fuse, .bool D.off, .slice A2 D.bad.length a2] 25)).alloc (.cells #[.slice B1 L.targets.length b1, .slice B2 L.data.length b2] 28)) 67 #[.int .i64 g, .int .i64 h]
  simp only [World.size_alloc] at y
  have yk := blk2 y
  have hB_4 := hB_2.alloc hB_2.size (.cells #[.int .i64 g, .int .i64 h] 67)
  have x_5 := x_3.alloc (.cells #[.int .i64 g, .int .i64 h] 67)
  have xk_5 := blk5 x_5
  have z_6 := z.alloc (.cells #[.int .i64 g, .int .i64 h] 67)
  have zk_6 := blk2 z_6
  go_enter Try.func44, Try.ntmps44
  go_wp2_with fail
  go_at_call 20
  refine ((ha _ hB_4)).mono ?_
  rintro e w1 ⟨⟨v1, rfl, own1⟩, hb1⟩
  replace hB := bt hB_4 hb1
  replace x := x_5.below hb1 x_5.lt
  replace xk := blk5 x
  replace z := z_6.below hb1 z_6.lt
  replace zk := blk2 z
  replace y := y.below hb1 y.lt
  replace yk := blk2 y
  clear hB_1 hB_2 xk_3 x_3 hB_4 xk_5 x_5 zk_6 z_6
  obtain ⟨C1, c1, rfl, _⟩ := own_slice own1
  have cc := Cells.of_own own1
  cases l with
  | nil =>
    go_wp2_with fail
    go_loopw [10, 23] (fun n x W => n = .int .i64 0 ∧ x = .int .i64 0 ∧ Below w.heap.size w W) (fun n x _ => 0)
    case atStart => exact ⟨rfl, rfl, hB⟩
    case round =>
      obtain ⟨rfl, rfl, hB⟩ := hrel
      go_wp2_with fail
      go_ret2
      rw [Hu.out]
      exact ⟨rfl, hB⟩
  | cons a0 l0 =>
  obtain ⟨bb, ob, rfl, hcell⟩ := cc.int (i := 0) (by simp)
  generalize hm : a0 :: l0 = m at *
  have HC := hid (fun (W : World) (hb : Below w1.heap.size w1 W) (j : Nat) (hj : j < m.length) => cell_below hb (hcell j hj))
  have Hbd := hid (fun (j : Nat) (hj : j < m.length) => hbd m[j] (List.getElem_mem hj))
  clear hm hcell cc own1 hbd
  go_wp2_with fail
  go_loopw [10, 23] (fun n x W => ∃ i : Nat, i ≤ m.length ∧ n = .int .i64 (Pn.usedIn (m.take i)) ∧ x = .int .i64 i ∧ Below w1.heap.size w1 W) (fun n x _ => m.length - (intOf x).toNat)
  case atStart => exact ⟨0, Nat.zero_le _, rfl, rfl, Below.refl _ _⟩
  case round =>
    obtain ⟨i, hi, rfl, rfl, hb⟩ := hrel
    have hul := Pn.used_le m i
    by_cases hlt : i < m.length
    · have k0 := HC.out _ hb i hlt
      have hv := Hbd.out i hlt
      have hnx := hid (Pn.used_next m i hlt)
      by_cases hz : m[i] = 0
      · rw [hz] at k0
        have hn2 := hid (show Pn.usedIn (m.take (i + 1)) = Pn.usedIn (m.take i) by rw [hnx.out, if_pos hz]; omega)
        clear hz hv
        generalize Pn.usedIn (m.take i) = u at hn2 hul ⊢
        go_wp2_with fail
        go_roundw
        case rel => exact ⟨i + 1, by omega, by rw [hn2.out]; try (congr 1; omega), by go_num, hb⟩
        case measure => simp [intOf]; omega
      · have hn2 := hid (show Pn.usedIn (m.take (i + 1)) = Pn.usedIn (m.take i) + 1 by rw [hnx.out, if_neg hz])
        have hz1 : (m[i] != 0) = true := by simpa using hz
        have hz2 : 1 ≤ m[i] := by omega
        have hz3 : min m[i] 1 = 1 := by omega
        generalize m[i] = c at k0 hz1 hz2 hz3 hv
        clear hz
        generalize Pn.usedIn (m.take i) = u at hn2 hul ⊢
        go_wp2_with fail
        go_roundw
        case rel => exact ⟨i + 1, by omega, by rw [hn2.out]; try (congr 1; omega), by go_num, hb⟩
        case measure => simp [intOf]; omega
    · obtain rfl : i = m.length := by omega
      have Hm := hid (List.take_length (l := m))
      go_wp2_with fail
      go_ret2
      rw [Hu.out, Hm.out]
      exact ⟨rfl, bt hB hb⟩
end Go.Proofs.Ytlajbmmhgflabaa
