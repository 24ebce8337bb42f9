/- DevCrashes: behind a crash each sector is what lasted, or one of the writes to it; with all kept what was seen, with none what lasted: any device, whatever is kept. No condition. -/
import Derived.Test.YtjpjpiejcpeepaaLaw01c
import Derived.Test.YtjpjpiejcpeepaaDevLaw3
set_option linter.unusedVariables false
namespace Go.Proofs.Ytjpjpiejcpeepaa.devCrashes
open Go.RowKit Go.Shelf Go.WideShapes Go.ChangeShapes Go.ChangeAt
open Dk (secOf)
open Go.ChangeMaps (open_string shut_string)
attribute [local go_sem] bs_mk bs_append bs_extract bs_size bs_toList bs_get

/-- The first i are true. -/
def half (n i : Nat) : List Value := (List.range n).map fun j => .bool (decide (j < i))
theorem half_get (n i j : Nat) : (half n i)[j]? = if j < n then some (.bool (decide (j < i))) else none := by
  unfold half
  rw [List.getElem?_map]
  by_cases h : j < n
  · rw [List.getElem?_range h, if_pos h]; rfl
  · rw [List.getElem?_eq_none (by simpa using h), if_neg h]; rfl
theorem half_start (n : Nat) : madeCells #[.bool false] n = (half n 0).toArray := by
  rw [← Array.toList_inj, toList_madeCells_one]
  apply List.ext_getElem?
  intro j
  rw [half_get, List.getElem?_replicate]
  simp
theorem half_at {n i : Nat} (h : i < n) : (half n i).toArray[i]? = some (.bool false) := by
  rw [List.getElem?_toArray, half_get, if_pos h]; simp
theorem half_set {n i : Nat} (h : i < n) : (half n i).toArray.setIfInBounds i (.bool true) = (half n (i + 1)).toArray := by
  rw [List.setIfInBounds_toArray]
  congr 1
  apply List.ext_getElem?
  intro j
  rw [List.getElem?_set, half_get, half_get]
  by_cases h1 : i = j
  · subst h1
    rw [if_pos rfl, if_pos (by simpa [half] using h), if_pos h]; simp
  · rw [if_neg h1]
    by_cases h3 : j < n
    · rw [if_pos h3, if_pos h3]
      have : decide (j < i) = decide (j < i + 1) := by
        by_cases h4 : j < i
        · simp [h4]; omega
        · have : ¬ j < i + 1 := by omega
          simp [h4, this]
      rw [this]
    · rw [if_neg h3, if_neg h3]
theorem half_end (n : Nat) : half n n = boolCells (List.replicate n true) := by
  apply List.ext_getElem?
  intro j
  rw [half_get, boolCells, List.getElem?_map, List.getElem?_replicate]
  by_cases h : j < n <;> simp [h]
section
variable (D : Dk) (p q : Pl) (A3 : Option Addr) (n3 c3 : Nat)
abbrev args : Array Value := #[dval D p q, .slice A3 n3 c3]
set_option maxRecDepth 100000 in
theorem walk_heavy (w : World) (h0 : IsDk0 w D p q) (hl : light D = false) :
    Calls Try.prog 5 (args D p q A3 n3 c3) w fun e w' => e = .returned (.bool true) ∧ Below w.heap.size w w' := by
  have m1 := h0.data
  have m2 := Nat.le_trans h0.pc h0.pm
  have m3 := Nat.le_trans h0.qc h0.qm
  have hL := hid hl
  obtain ⟨A1, c1⟩ := p
  obtain ⟨A2, c2⟩ := q
  go_enter Try.func5, Try.ntmps5
  go_wp2_with fail
  go_at_call 19
  refine (light0 D ⟨A1, c1⟩ ⟨A2, c2⟩ _ m1 m2 m3).mono ?_
  rintro e w1 ⟨rfl, hb1⟩
  rw [hL.out]
  go_wp2_with fail
  go_at_call 21
  refine (awake01 _).mono ?_
  rintro e w2 ⟨rfl, hb2⟩
  go_wp2_with fail
  go_ret
  have b1 := bt ((Below.refl w.heap.size w).alloc (Nat.le_refl _) _) hb1
  exact ⟨rfl, bt b1 hb2⟩
set_option maxRecDepth 100000 in
theorem walk_unfit (w : World) (h0 : IsDk w D p q) (hl : light D = true) (hf : D.fit = false) :
    Calls Try.prog 5 (args D p q A3 n3 c3) w fun e w' => e = .returned (.bool true) ∧ Below w.heap.size w w' := by
  have m1 := h0.data
  have m2 := Nat.le_trans h0.pc h0.pm
  have m3 := Nat.le_trans h0.qc h0.qm
  have hL := hid hl
  have hF := hid hf
  obtain ⟨A1, c1⟩ := p
  obtain ⟨A2, c2⟩ := q
  have hB := (Below.refl w.heap.size w).alloc (Nat.le_refl _) (.cells #[.string (bs D.data), .slice A1 D.cache.length c1, .int .i64 D.fuse, .bool D.off, .slice A2 D.bad.length c2] 25)
  have x0 := Blk.new w 25 #[.string (bs D.data), .slice A1 D.cache.length c1, .int .i64 D.fuse, .bool D.off, .slice A2 D.bad.length c2]
  go_enter Try.func5, Try.ntmps5
  go_wp2_with fail
  go_at_call 19
  refine (light0 D ⟨A1, c1⟩ ⟨A2, c2⟩ _ (by omega) m2 m3).mono ?_
  rintro e w1 ⟨rfl, hb1⟩
  rw [hL.out]
  have x1 := x0.below hb1 x0.lt
  have y1 := blk5 x1
  have B1 := bt hB hb1
  go_wp2_with fail
  go_at_call 20
  refine (r1_fit D ⟨A1, c1⟩ ⟨A2, c2⟩ _ (h0.below B1) (by have := (light_of hL.out).2.1; omega)).mono ?_
  rintro e w2 ⟨rfl, hb2⟩
  rw [hF.out]
  go_wp2_with fail
  go_at_call 21
  refine (awake01 _).mono ?_
  rintro e w3 ⟨rfl, hb3⟩
  go_wp2_with fail
  go_ret
  exact ⟨rfl, bt (bt B1 hb2) hb3⟩
theorem Try.infoBool : (Try.prog.info? 4).map (fun i => (i.zero, i.size, i.bytes)) = some (some (.bool false), 1, 1) := by kernel_rfl
set_option maxRecDepth 100000 in
set_option maxHeartbeats 2000000 in
theorem walk_fit (w : World) (h0 : IsDk w D p q) (hl : light D = true) (hf : D.fit = true) (ks : List Bool) (hn3 : n3 = ks.length) (hks : Cells w A3 (boolCells ks)) (hkl : ks.length ≤ 9223372036854775807) (L1 L2 : List UInt8)
    (hL1 : D.last (fun i => ks.getD i false) = L1) (hL2 : D.last (fun _ => true) = L2)
    (hs1 : ∀ k, k < D.sz → secOf L1 k = secOf D.data k ∨ ∃ i, ∃ hi : i < D.cache.length, D.cache[i].1 = k ∧ D.cache[i].2 = secOf L1 k)
    (hs2 : ∀ k : Nat, k < D.sz → secOf L2 k = D.sees k) (l1 : L1.length = D.data.length) (l2 : L2.length = D.data.length) :
    Calls Try.prog 5 (args D p q A3 n3 c3) w fun e w' => e = .returned (.bool true) ∧ Below w.heap.size w w' := by
  have m1 := h0.data
  have m2 := Nat.le_trans h0.pc h0.pm
  have m3 := Nat.le_trans h0.qc h0.qm
  have hL := hid hl
  have hF := hid hf
  have dl := (Dk.fit_parts hf).2.2.1
  have hcr : ∀ W A c ks', IsDk W D p q → Cells W A (boolCells ks') → ks'.length ≤ 9223372036854775807 → ∀ L, D.last (fun i => ks'.getD i false) = L → Calls Try.prog 22 #[dval D p q, .slice A ks'.length c] W fun e w' => (∃ p' q', e = .returned (dval ⟨L, [], -1, false, D.bad⟩ p' q') ∧ IsDk w' ⟨L, [], -1, false, D.bad⟩ p' q') ∧ Below W.heap.size W w' := fun W A c ks' h h2 h3 L hL => by
    have := d_crash D p q W h hf ks' A c h2 h3
    rw [show (D.crash fun i => ks'.getD i false) = ⟨L, [], -1, false, D.bad⟩ by rw [← hL]; rfl] at this
    exact this
  have hcrA : ∀ W A c ks', IsDk W D p q → Cells W A (boolCells ks') → ks'.length ≤ 9223372036854775807 → ∀ L, D.last (fun i => ks'.getD i false) = L → Calls Try.prog 22 #[dval D p q, .slice A ks'.length c] W fun e w' => (e = .returned (dval ⟨L, [], -1, false, D.bad⟩ ⟨none, 0⟩ q) ∧ IsDk w' ⟨L, [], -1, false, D.bad⟩ ⟨none, 0⟩ q) ∧ Below W.heap.size W w' := fun W A c ks' h h2 h3 L hL => by
    have := d_crash_at D p q W h hf ks' A c h2 h3
    rw [show (D.crash fun i => ks'.getD i false) = ⟨L, [], -1, false, D.bad⟩ by rw [← hL]; rfl] at this
    exact this
  have Hs1 := hid hs1
  have Hs2 := hid hs2
  have Hl1 := hid l1
  have Hl2 := hid l2
  have HL1 := hid hL1
  have HL2 := hid hL2
  have Dl := hid dl
  clear hs1 hs2 l1 l2 hL1 hL2 dl
  have hcl := (light_of hl).2.1
  have hdl := (light_of hl).1
  obtain ⟨A1, c1⟩ := p
  obtain ⟨A2, c2⟩ := q
  have hB := (Below.refl w.heap.size w).alloc (Nat.le_refl _) (.cells #[.string (bs D.data), .slice A1 D.cache.length c1, .int .i64 D.fuse, .bool D.off, .slice A2 D.bad.length c2] 25)
  have x0 := Blk.new w 25 #[.string (bs D.data), .slice A1 D.cache.length c1, .int .i64 D.fuse, .bool D.off, .slice A2 D.bad.length c2]
  go_enter Try.func5, Try.ntmps5
  go_wp2_with fail
  go_at_call 19
  refine (light0 D ⟨A1, c1⟩ ⟨A2, c2⟩ _ (by omega) m2 m3).mono ?_
  rintro e w1 ⟨rfl, hb1⟩
  rw [hL.out]
  have x1 := x0.below hb1 x0.lt
  have y1 := blk5 x1
  have B1 := bt hB hb1
  go_wp2_with fail
  go_at_call 20
  refine (r1_fit D ⟨A1, c1⟩ ⟨A2, c2⟩ _ (h0.below B1) (by have := (light_of hL.out).2.1; omega)).mono ?_
  rintro e w2 ⟨rfl, hb2⟩
  rw [hF.out]
  have x2 := x1.below hb2 x1.lt
  have y2 := blk5 x2
  have B2 := bt B1 hb2
  go_wp2_with fail
  go_at_call 22
  subst hn3
  refine (hcr _ A3 c3 ks (h0.below B2) (hks.below B2) hkl L1 HL1.out).mono ?_
  rintro e w3 ⟨⟨p1, q1, rfl, hD3⟩, hb3⟩
  have x3 := x2.below hb3 x2.lt
  have B3 := bt B2 hb3
  have ne1 : ¬ w3.heap.size = w.heap.size := by have := x3.lt; omega
  have ne2 : ¬ w.heap.size = w3.heap.size := by omega
  have x4 := x3.alloc (.cells #[.string (bs L1), .slice p1.a 0 p1.c, .int .i64 (-1), .bool false, .slice q1.a D.bad.length q1.c] 25)
  have z4 := Blk.new w3 25 #[.string (bs L1), .slice p1.a 0 p1.c, .int .i64 (-1), .bool false, .slice q1.a D.bad.length q1.c]
  have y4 := blk5 x4
  have y4' := blk5 z4
  have B4 := B3.alloc B3.size (.cells #[.string (bs L1), .slice p1.a 0 p1.c, .int .i64 (-1), .bool false, .slice q1.a D.bad.length q1.c] 25)
  have l1 := Hl1.out
  clear x0 x1 x2 x3 y1 y2 hb1 hb2 hb3 hB B1 B2
  go_wp2_with fail
  go_at_call 23
  refine (r1_size D ⟨A1, c1⟩ ⟨A2, c2⟩ m1 _).mono ?_
  rintro e w5 ⟨rfl, hb5⟩
  have x5 := x4.below hb5 x4.lt
  have z5 := z4.below hb5 z4.lt
  have B5 := bt B4 hb5
  clear x4 z4 y4 y4' hb5 B3 B4 hD3
  go_wp2_with fail
  go_loopw [51] (fun x W => ∃ i : Nat, i ≤ D.sz ∧ x = .int .i64 i ∧ Below w5.heap.size w5 W) (fun x _ => D.sz - (intOf x).toNat)
  case atStart => exact ⟨0, Nat.zero_le _, rfl, Below.refl _ _⟩
  case round =>
    obtain ⟨i, hi, rfl, hb⟩ := hrel
    have x6 := x5.below hb x5.lt
    have z6 := z5.below hb z5.lt
    have y6 := blk5 x6
    have y6' := blk5 z6
    have B6 := bt B5 hb
    by_cases hlt : i < D.sz
    · have hin : (i + 1) * 64 ≤ D.data.length := by have := Dl.out; omega
      have l1 := Hl1.out
      have m4 : (0 : Int) ≤ (i : Int) * 64 := by omega
      have m5 : (i : Int) * 64 ≤ ((i : Int) + 1) * 64 := by omega
      have m6 : ((i : Int) + 1) * 64 ≤ D.data.length := by omega
      have m7 : ((i : Int) + 1) * 64 ≤ L1.length := by omega
      have t1 : ((i : Int) * 64).toNat = i * 64 := by omega
      have t2 : (((i : Int) + 1) * 64).toNat = (i + 1) * 64 := by omega
      have hs := Hs1.out i hlt
      unfold secOf at hs
      go_wp2_with fail
      generalize List.drop (i * 64) (List.take ((i + 1) * 64) L1) = S1 at *
      generalize List.drop (i * 64) (List.take ((i + 1) * 64) D.data) = S0 at *
      have Hs := hid hs
      clear hs
      go_loopw [8, 75] (fun t8 x W => ∃ j : Nat, j ≤ D.cache.length ∧ t8 = .bool ((S1 == S0) || (D.cache.take j).any fun y => y.1 == (i : Int) && y.2 == S1) ∧ x = .int .i64 j ∧ Below w5.heap.size w5 W) (fun _ x _ => D.cache.length - (intOf x).toNat)
      case atStart => exact ⟨0, Nat.zero_le _, by simp, rfl, hb⟩
      case round =>
        obtain ⟨j, hj, rfl, rfl, hbi⟩ := hrel
        clear hb B6 x6 z6 y6 y6'
        have x7 := x5.below hbi x5.lt
        have z7 := z5.below hbi z5.lt
        have y7 := blk5 x7
        have y7' := blk5 z7
        have B7 := bt B5 hbi
        by_cases hjl : j < D.cache.length
        · obtain ⟨pb, po, hpa, hcell⟩ := (h0.below B7).cache.put hjl
          simp only at hpa
          subst hpa
          obtain ⟨e0, e1⟩ := hcell j hjl
          clear hcell
          have hok := h0.ats _ (List.getElem_mem hjl)
          have Hany := hid (show ((S1 == S0) || (D.cache.take (j + 1)).any fun y => y.1 == (i : Int) && y.2 == S1) = (((S1 == S0) || (D.cache.take j).any fun y => y.1 == (i : Int) && y.2 == S1) || (D.cache[j].1 == (i : Int) && D.cache[j].2 == S1)) by
            rw [List.take_succ_eq_append_getElem hjl, List.any_append, ← Bool.or_assoc]; simp)
          generalize ((S1 == S0) || (D.cache.take j).any fun y => y.1 == (i : Int) && y.2 == S1) = b at *
          generalize D.cache[j] = y at *
          obtain ⟨ya, yd⟩ := y
          simp only at e0 e1 Hany hok
          have hbn := hbi.alloc hbi.size (.cells #[.int .i64 ya, .string (bs yd)] 45)
          cases b with
          | true =>
            go_wp2_with fail
            go_roundw
            case rel => exact ⟨j + 1, by omega, by rw [Hany.out]; rfl, by go_num, hbn⟩
            case measure => simp [intOf]; omega
          | false =>
            cases c1 : (ya == (i : Int)) with
            | false =>
              go_wp2_with fail
              go_roundw
              case rel => exact ⟨j + 1, by omega, by rw [Hany.out, c1]; rfl, by go_num, hbn⟩
              case measure => simp [intOf]; omega
            | true =>
              have pb1 := blk2 (Blk.new wr 45 #[.int .i64 ya, .string (bs yd)])
              go_wp2_with fail
              go_roundw
              case rel => exact ⟨j + 1, by omega, by rw [Hany.out, c1]; rfl, by go_num, hbn⟩
              case measure => simp [intOf]; omega
        · obtain rfl : j = D.cache.length := by omega
          have hall : ((S1 == S0) || (D.cache.take D.cache.length).any fun y => y.1 == (i : Int) && y.2 == S1) = true := by
            rcases Hs.out with h | ⟨j, hj, h1, h2⟩
            · rw [h]; simp
            · rw [List.take_length, Bool.or_eq_true]; right
              exact List.any_eq_true.2 ⟨_, List.getElem_mem hj, by rw [h1, h2]; simp⟩
          rw [hall]
          go_wp2_with fail
          go_roundw
          case rel => exact ⟨i + 1, by omega, by go_num, hbi⟩
          case measure => simp [intOf]; omega
    · obtain rfl : i = D.sz := by omega
      obtain ⟨i0, hi0, hz0, hz1, hz2⟩ := info_parts Try.infoBool
      have hmk := run_make_rowN (P := Try.prog) 40 4 i0 (.bool false) Try.underlying40 hi0 hz0 .i64 .i64 D.cache.length D.cache.length (Nat.le_refl _) (by rw [hz2]; omega) (by omega) wr
      rw [hz1, Nat.mul_one] at hmk
      clear hi0 hz0 hz1 hz2
      have x7 := x6.alloc (.cells (madeCells #[.bool false] D.cache.length) 4)
      have g7 := Blk.new wr 4 (madeCells #[.bool false] D.cache.length)
      have B7 := B6.alloc B6.size (.cells (madeCells #[.bool false] D.cache.length) 4)
      go_wp2_with fail
      clear hb x5 z5 y6 y6' hmk z6
      rename World => wb
      have b7 := (Below.refl wb.heap.size wb).alloc (Nat.le_refl _) (.cells (madeCells #[.bool false] D.cache.length) 4)
      generalize hw7 : wb.alloc (.cells (madeCells #[.bool false] D.cache.length) 4) = w7 at *
      clear hw7
      rw [half_start] at g7
      go_loopw [102] (fun x W => ∃ i : Nat, i ≤ D.cache.length ∧ x = .int .i64 i ∧ Blk W wb.heap.size 4 (half D.cache.length i).toArray ∧ Below wb.heap.size wb W) (fun x _ => D.cache.length - (intOf x).toNat)
      case atStart => exact ⟨0, Nat.zero_le _, rfl, g7, b7⟩
      case round =>
        obtain ⟨i, hi, rfl, gB, hb⟩ := hrel
        clear g7 b7 x7 B7
        by_cases hlt : i < D.cache.length
        · have c0 := gB.cell i
          rw [half_at hlt] at c0
          have f0 := gB.frozen i
          have gn := gB.set i (.bool true)
          rw [half_set hlt] at gn
          have bn := hb.setCell (p := ⟨wb.heap.size, i, none⟩) (Nat.le_refl _) (.bool true)
          go_wp2_with fail
          go_roundw
          case rel => exact ⟨i + 1, by omega, by go_num, gn, bn⟩
          case measure => simp [intOf]; omega
        · obtain rfl : i = D.cache.length := by omega
          have x8 := x6.below hb x6.lt
          have B8 := bt B6 hb
          have y8 := blk5 x8
          have hcs : Cells wr (some ⟨wb.heap.size, 0, none⟩) (boolCells (List.replicate D.cache.length true)) := by
            rw [← half_end]
            refine .inr ⟨_, 0, rfl, fun j u hu => ?_⟩
            rw [Nat.zero_add, gB.cell]; simpa using hu
          have hcc := hcrA _ (some ⟨wb.heap.size, 0, none⟩) D.cache.length (List.replicate D.cache.length true) (h0.below B8) hcs (by simp; omega) L2 (by
            rw [← HL2.out]; exact Dk.lastN_congr D _ fun i hi => by rw [List.getD_eq_getElem?_getD, List.getElem?_replicate, if_pos hi]; rfl)
          rw [List.length_replicate] at hcc
          go_wp2_with fail
          go_at_call 22
          refine hcc.mono ?_
          rintro e w9 ⟨⟨rfl, hD9⟩, hb9⟩
          have x9 := x8.below hb9 x8.lt
          have B9 := bt B8 hb9
          have ne3 : ¬ w9.heap.size = w.heap.size := by have := x9.lt; omega
          have ne4 : ¬ w.heap.size = w9.heap.size := by omega
          have x10 := x9.alloc (.cells #[.string (bs L2), .slice none 0 0, .int .i64 (-1), .bool false, .slice A2 D.bad.length c2] 25)
          have z10 := Blk.new w9 25 #[.string (bs L2), .slice none 0 0, .int .i64 (-1), .bool false, .slice A2 D.bad.length c2]
          have B10 := B9.alloc B9.size (.cells #[.string (bs L2), .slice none 0 0, .int .i64 (-1), .bool false, .slice A2 D.bad.length c2] 25)
          clear x8 x9 y8 hcc hcs gB
          have l2 := Hl2.out
          go_wp2_with fail
          generalize hw10 : w9.alloc (.cells #[.string (bs L2), .slice none 0 0, .int .i64 (-1), .bool false, .slice A2 D.bad.length c2] 25) = w10 at *
          clear hw10
          have K0 := ext5 x10
          have K1 := ext5 z10
          have hE : ∀ e : Ext w10, Calls Try.prog 22 #[.agg #[.string (bs D.data), .slice A1 D.cache.length c1, .int .i64 D.fuse, .bool D.off, .slice A2 D.bad.length c2], .slice none 0 0] e.world fun x w' => x = .returned (.agg #[.string (bs D.data), .slice none 0 0, .int .i64 (-1), .bool false, .slice A2 D.bad.length c2]) ∧ Below e.world.heap.size e.world w' := fun e => (hcrA e.world none 0 [] (h0.below (bt B10 e.below)) (.inl rfl) (by simp) D.data (by
            rw [show (fun i => ([] : List Bool).getD i false) = fun _ => false from funext fun i => by simp]; exact Dk.lastN_none D _)).mono fun _ _ h => (⟨h.1.1, h.2⟩ : _ ∧ _)
          have hfd : ∀ W : World, (Instr.field 25 (.agg #[.string (bs D.data), .slice none 0 0, .int .i64 (-1), .bool false, .slice A2 D.bad.length c2]) 0).run Try.prog W = .ok (.string (bs D.data)) W := fun _ => by kernel_rfl
          refine wp_region_ext mixed (by kernel_rfl) ?_
          repeat (go_big_quiet_step (((go_at_call 22; with_reducible exact ext_of (hE _)))))
          refine wpQuiet_nil ?_
          rintro _ ⟨⟨w11, hb11⟩, rfl⟩
          have x11 := x10.below hb11 x10.lt
          have z11 := z10.below hb11 z10.lt
          have B11 := bt B10 hb11
          have y11 := blk5 x11
          have y11' := blk5 z11
          clear hE hfd K0 K1 x10 z10
          go_wp2_with fail
          go_at_call 23
          refine (r1_size D ⟨A1, c1⟩ ⟨A2, c2⟩ m1 _).mono ?_
          rintro e w12 ⟨rfl, hb12⟩
          have x12 := x11.below hb12 x11.lt
          have z12 := z11.below hb12 z11.lt
          have B12 := bt B11 hb12
          clear x11 z11 y11 y11' hb12 B10 B11
          go_wp2_with fail
          go_loopw [129] (fun x W => ∃ i : Nat, i ≤ D.sz ∧ x = .int .i64 i ∧ Below w12.heap.size w12 W) (fun x _ => D.sz - (intOf x).toNat)
          case atStart => exact ⟨0, Nat.zero_le _, rfl, Below.refl _ _⟩
          case round =>
            obtain ⟨i, hi, rfl, hb⟩ := hrel
            have x13 := x12.below hb x12.lt
            have z13 := z12.below hb z12.lt
            have B13 := bt B12 hb
            by_cases hlt : i < D.sz
            · have hin : (i + 1) * 64 ≤ D.data.length := by have := Dl.out; omega
              have m4 : (0 : Int) ≤ (i : Int) * 64 := by omega
              have m5 : (i : Int) * 64 ≤ ((i : Int) + 1) * 64 := by omega
              have m7 : ((i : Int) + 1) * 64 ≤ L2.length := by omega
              have t1 : ((i : Int) * 64).toNat = i * 64 := by omega
              have t2 : (((i : Int) + 1) * 64).toNat = (i + 1) * 64 := by omega
              have hs := Hs2.out i hlt
              unfold secOf at hs
              have K0 := ext5 x13
              have K1 := ext5 z13
              have hth : D.there (i : Int) = true := by simp [Dk.there]; omega
              have hE : ∀ e : Ext wr, Calls Try.prog 24 #[.agg #[.string (bs D.data), .slice A1 D.cache.length c1, .int .i64 D.fuse, .bool D.off, .slice A2 D.bad.length c2], .int .i64 i] e.world fun x w' => x = .returned (.string (bs (D.sees i))) ∧ Below e.world.heap.size e.world w' := fun e =>
                r1_sees D ⟨A1, c1⟩ ⟨A2, c2⟩ _ (h0.below (bt B13 e.below)) i hth Dl.out
              clear hth
              go_wp2_with fail
              refine wp_region_ext mixed (by kernel_rfl) ?_
              repeat (go_big_quiet_step (((go_at_call 24; with_reducible exact ext_of (hE _)))))
              refine wpQuiet_nil ?_
              rintro _ ⟨⟨w14, hb14⟩, rfl⟩
              go_wp2_with fail
              go_roundw
              case rel => exact ⟨i + 1, by omega, by go_num, bt hb hb14⟩
              case measure => simp [intOf]; omega
            · obtain rfl : i = D.sz := by omega
              go_wp2_with fail
              go_at_call 21
              refine (awake01 _).mono ?_
              rintro e w15 ⟨rfl, hb15⟩
              go_wp2_with fail
              go_ret
              exact ⟨rfl, bt B13 hb15⟩
end
theorem walk (w : World) (D : Dk) (p q : Pl) (h0 : IsDk0 w D p q) (A3 : Option Addr) (c3 : Nat) (ks : List Bool)
    (h3 : Cells w A3 (boolCells ks) ∧ (A3 = none → c3 = 0) ∧ ks.length ≤ c3 ∧ c3 ≤ maxLen ∧ ∀ x ∈ ks, True) :
    Calls Try.prog 5 #[dval D p q, .slice A3 ks.length c3] w fun e w' => e = .returned (.bool true) ∧ Below w.heap.size w w' := by
  obtain ⟨hks, _, hk1, hk2, _⟩ := h3
  by_cases hl : light D = true
  · obtain ⟨l1, l2, l3⟩ := light_of hl
    have hD := h0.full (by omega) (by omega) (by omega)
    by_cases hf : D.fit = true
    · have dl := (Dk.fit_parts hf).2.2.1
      exact walk_fit D p q A3 _ c3 w hD hl hf ks rfl hks (Nat.le_trans hk1 hk2) _ _ rfl rfl (fun k hk => Dk.lastN_some hf hk _ _ (Nat.le_refl _)) (fun k hk => Dk.last_sees hf hk)
        ((Dk.lastN_length hf _ _).trans dl.symm) ((Dk.lastN_length hf _ _).trans dl.symm)
    · exact walk_unfit D p q A3 _ c3 w hD hl (by simpa using hf)
  · exact walk_heavy D p q A3 _ c3 w h0 (by simpa using hl)
/-! ### The row -/
theorem own : ownKnob Try.prog.godebug = none := by kernel_rfl
set_option maxRecDepth 100000 in
theorem lifted (os : Os) (started : os.Started) (H : Type) (enc : TypeId × Value → H) :
    ReturnsInHanded {} Try.checked os 5 .any (Rows.devCrashesSpec.pre6 enc Try.prog Try.f5 Rows.devCrashesRow.domain false) (Rows.devCrashesSpec.post enc Try.prog Try.f5 false true false false) := by
  refine returnsInHanded_of_change (C := Try.checked) own started (by kernel_rfl) Try.func5
    (ChangeSpec.witness6 (enc := enc) (C := Try.checked) false ⟨#[], #[.agg #[.string ByteArray.empty, .slice none 0 0, .int .i64 0, .bool false, .slice none 0 0], .slice none 0 0], []⟩ 8 (by kernel_rfl) (by kernel_rfl) (by kernel_rfl) (by kernel_rfl)) ?_
  intro W base args ds gs before hval0 hW hcnd _
  have hval : ∀ (j : Nat) t v, Try.f5.params[j]? = some t → args[j]? = some v → Value.okWide Try.prog W .any base t v := hval0
  have hW' := hW
  obtain ⟨p, q, hA0, hV, rfl, hfz, hnd⟩ := hW
  have hA : DataW.TrodAll enc Try.prog W 0 (fun _ => true) true Try.f5.params.toList args.toList ds p := hA0
  have hAk := hA
  rw [Try.params5] at hA hval
  obtain ⟨v0, vs0, d0, ds0, p0, q0, hargs, rfl, rfl, h0, r0⟩ := trodAll_cons hA
  obtain ⟨v1, vs1, d1, ds1, p1, q1, rfl, rfl, rfl, h1, r1⟩ := trodAll_cons r0
  obtain ⟨rfl, rfl, rfl⟩ := trodAll_nil r1
  obtain rfl : args = #[v0, v1] := by cases args; simp_all
  obtain ⟨rfl, rfl⟩ := trodVars_none hV
  obtain ⟨D0, P0, Q0, rfl, w0⟩ := open_dk Try.underlying25 (by kernel_rfl) (by kernel_rfl) Try.underlying9 Try.underlying22 Try.underlying3 Try.underlying4 Try.underlying23 Try.underlying45 (by kernel_rfl) (by kernel_rfl) Try.underlying3 Try.underlying9 Try.underlying3 (by kernel_rfl) (hval 0 25 v0 rfl rfl) h0
  obtain ⟨A1, n1, c1, rfl⟩ := okWide_slice Try.underlying40 (hval 1 40 v1 rfl rfl)
  obtain ⟨_, h1'⟩ := h1
  obtain ⟨B1, e1, l1, hB1, w1⟩ := open_bools Try.underlying40 Try.underlying4 (by kernel_rfl) h1'
  rw [hB1] at hW' hAk ⊢
  clear hA0 hval0
  simp only [List.append_nil] at hW'
  refine (walk W D0 P0 Q0 w0 B1 e1 l1 w1).mono fun e W' ⟨he, hb⟩ => ?_
  subst he
  exact ⟨_, rfl, post_of_below (pa := _) (pv := []) hW' (fun _ _ _ => (trodAll_cons_mk (shut_bool Try.underlying4 _) trodAll_mk0)) (fun sp hsp => trodAll_stays (by kernel_rfl) hb (by kernel_rfl) hAk (fun x hx => hW'.lt x (by simpa using hx)) (fun x hx => hsp x (by simpa using hx))) (fun _ _ => rfl) (by simp) hb (ok_one (by kernel_rfl) rfl (okWide_bool_mk Try.underlying4 _))⟩
theorem over_ : Rows.devCrashesRow.holds Try.pinned (OpenSpec.ofChange Rows.devCrashesSpec) :=
  OpenClaim.holds_of_wide 5 Try.f5 rfl rfl rfl rfl rfl rfl rfl ⟨rfl, rfl, rfl, rfl, rfl⟩ rfl rfl rfl rfl rfl (by kernel_rfl) Try.func5 (by kernel_rfl)
    (of_decide_eq_true (by kernel_rfl)) (by unfold Func.isWrapper; first | (rw [if_pos (by decide +kernel)]; kernel_rfl) | (rw [if_neg (by decide +kernel)]; exact ⟨rfl, rfl⟩))
    (fun os started H enc _ => lifted os started H enc)
/-- The statement. -/
theorem proved : Rows.DevCrashesSaid := over_
#print axioms proved
end Go.Proofs.Ytjpjpiejcpeepaa.devCrashes
