/- Package ref13: images are written, or not. -/
import Derived.Test.YtlapjkbefkmohaaGreatSdImg6
set_option linter.unusedVariables false
namespace Go.Proofs.YtlapjkbefkmohaaGreat
open Go.RowKit Go.Shelf
attribute [local go_sem] bs_mk bs_append bs_extract bs_size bs_toList bs_get
set_option maxRecDepth 100000 in
set_option maxHeartbeats 4000000 in
theorem r13_write (x : Im) (p q r : Pl) (w : World) (hI : IsIm w x p q r) (ok : x.Ok) (u off : Int) (s : List UInt8) (hu64 : okInt u) (ho64 : okInt off) (hs64 : s.length ≤ 9223372036854775807) :
 Calls Tryz.prog 16 #[imval x p q r, .int .i64 u, .int .i64 off, .string (bs s)] w fun e w' => RetIm w.heap.size x p q r (x.write u off s) e w' ∧ Below w.heap.size w w' := by
 by_cases hin : x.br = false ∧ (0 ≤ u ∧ u < x.g) ∧ 0 ≤ off ∧ off + s.length ≤ 128 ∧ s ≠ []
 · exact r13_write_in x p q r w hI ok hin.1 u off s hin.2.1 hin.2.2.1 hin.2.2.2.1 hin.2.2.2.2
 have or9 := hI.apart (g := w.heap.size + 1) (by omega)
 have hg := ok.g
 obtain ⟨hd, hm⟩ := hI
 unfold okInt at hu64 ho64
 clear ok
 obtain ⟨D, g, h, ⟨seq, pos⟩, maps, br⟩ := x
 simp only at hd hm or9 hin hg
 obtain ⟨A1, a1⟩ := p
 obtain ⟨A2, a2⟩ := q
 obtain ⟨A3, a3⟩ := r
 have hI0 := hg
 cases br with
 | true =>
  clear hin
  have Hr := hid (show Im.write ⟨D, g, h, ⟨seq, pos⟩, maps, true⟩ u off s = (⟨D, g, h, ⟨seq, pos⟩, maps, true⟩, 24) from if_pos rfl)
  clear hI0
  have hB := Below.refl w.heap.size w
  clear or9
  have x := Blk.new w 33 #[.string (bs D.data), .slice A1 D.cache.length a1, .int .i64 D.fuse, .bool D.off, .slice A2 D.bad.length a2, .int .i64 g, .int .i64 h, .int .u64 seq, .int .i64 pos, .slice A3 maps.length a3, .bool true]
  have xk := blk11 x
  have hB_1 := hB.alloc hB.size (.cells #[.string (bs D.data), .slice A1 D.cache.length a1, .int .i64 D.fuse, .bool D.off, .slice A2 D.bad.length a2, .int .i64 g, .int .i64 h, .int .u64 seq, .int .i64 pos, .slice A3 maps.length a3, .bool true] 33)
  have hd_2 := hd.below ((Below.refl _ _).alloc (Nat.le_refl _) (.cells #[.string (bs D.data), .slice A1 D.cache.length a1, .int .i64 D.fuse, .bool D.off, .slice A2 D.bad.length a2, .int .i64 g, .int .i64 h, .int .u64 seq, .int .i64 pos, .slice A3 maps.length a3, .bool true] 33))
  have hm_3 := hm.below ((Below.refl _ _).alloc (Nat.le_refl _) (.cells #[.string (bs D.data), .slice A1 D.cache.length a1, .int .i64 D.fuse, .bool D.off, .slice A2 D.bad.length a2, .int .i64 g, .int .i64 h, .int .u64 seq, .int .i64 pos, .slice A3 maps.length a3, .bool true] 33))
  have r := Blk.new (w.alloc (.cells #[.string (bs D.data), .slice A1 D.cache.length a1, .int .i64 D.fuse, .bool D.off, .slice A2 D.bad.length a2, .int .i64 g, .int .i64 h, .int .u64 seq, .int .i64 pos, .slice A3 maps.length a3, .bool true] 33)) 33 #[.string (bs D.data), .slice A1 D.cache.length a1, .int .i64 D.fuse, .bool D.off, .slice A2 D.bad.length a2, .int .i64 g, .int .i64 h, .int .u64 seq, .int .i64 pos, .slice A3 maps.length a3, .bool true]
  simp only [World.size_alloc] at r
  have rk := blk11 r
  have hB_4 := hB_1.alloc hB_1.size (.cells #[.string (bs D.data), .slice A1 D.cache.length a1, .int .i64 D.fuse, .bool D.off, .slice A2 D.bad.length a2, .int .i64 g, .int .i64 h, .int .u64 seq, .int .i64 pos, .slice A3 maps.length a3, .bool true] 33)
  have hd_5 := hd_2.below ((Below.refl _ _).alloc (Nat.le_refl _) (.cells #[.string (bs D.data), .slice A1 D.cache.length a1, .int .i64 D.fuse, .bool D.off, .slice A2 D.bad.length a2, .int .i64 g, .int .i64 h, .int .u64 seq, .int .i64 pos, .slice A3 maps.length a3, .bool true] 33))
  have hm_6 := hm_3.below ((Below.refl _ _).alloc (Nat.le_refl _) (.cells #[.string (bs D.data), .slice A1 D.cache.length a1, .int .i64 D.fuse, .bool D.off, .slice A2 D.bad.length a2, .int .i64 g, .int .i64 h, .int .u64 seq, .int .i64 pos, .slice A3 maps.length a3, .bool true] 33))
  have x_7 := x.alloc (.cells #[.string (bs D.data), .slice A1 D.cache.length a1, .int .i64 D.fuse, .bool D.off, .slice A2 D.bad.length a2, .int .i64 g, .int .i64 h, .int .u64 seq, .int .i64 pos, .slice A3 maps.length a3, .bool true] 33)
  have xk_7 := blk11 x_7
  have yy := rk
  have bw := hB_4
  have dw := hd_5
  have mw := hm_6
  go_enter Tryz.func16, Tryz.ntmps16
  go_wp2_with fail
  refine bodyPost_ret (v := .tuple #[imval ⟨D, g, h, ⟨seq, pos⟩, maps, true⟩ ⟨A1, a1⟩ ⟨A2, a2⟩ ⟨A3, a3⟩, .int .i64 24]) (by simp [results, Tryz.results16, go_sem, yy]) rfl ?_
  rw [Hr.out]
  exact ⟨⟨⟨A1, a1⟩, ⟨A2, a2⟩, ⟨A3, a3⟩, rfl, ⟨dw, mw⟩, fun _ _ h => h⟩, bw⟩
 | false =>
  by_cases hb : (u < 0 ∨ g ≤ u) ∨ off < 0 ∨ 128 < s.length ∨ 128 - (s.length : Int) < off
  · by_cases h0 : u < 0
    · skip
      have Hr := hid (show Im.write ⟨D, g, h, ⟨seq, pos⟩, maps, false⟩ u off s = (⟨D, g, h, ⟨seq, pos⟩, maps, false⟩, 10) from (if_neg (by simp)).trans (if_pos hb))
      have t1 : decide (u < 0) = true := decide_eq_true (by omega)
      clear hin hb
      clear hI0
      have hB := Below.refl w.heap.size w
      clear or9
      have x := Blk.new w 33 #[.string (bs D.data), .slice A1 D.cache.length a1, .int .i64 D.fuse, .bool D.off, .slice A2 D.bad.length a2, .int .i64 g, .int .i64 h, .int .u64 seq, .int .i64 pos, .slice A3 maps.length a3, .bool false]
      have xk := blk11 x
      have hB_1 := hB.alloc hB.size (.cells #[.string (bs D.data), .slice A1 D.cache.length a1, .int .i64 D.fuse, .bool D.off, .slice A2 D.bad.length a2, .int .i64 g, .int .i64 h, .int .u64 seq, .int .i64 pos, .slice A3 maps.length a3, .bool false] 33)
      have hd_2 := hd.below ((Below.refl _ _).alloc (Nat.le_refl _) (.cells #[.string (bs D.data), .slice A1 D.cache.length a1, .int .i64 D.fuse, .bool D.off, .slice A2 D.bad.length a2, .int .i64 g, .int .i64 h, .int .u64 seq, .int .i64 pos, .slice A3 maps.length a3, .bool false] 33))
      have hm_3 := hm.below ((Below.refl _ _).alloc (Nat.le_refl _) (.cells #[.string (bs D.data), .slice A1 D.cache.length a1, .int .i64 D.fuse, .bool D.off, .slice A2 D.bad.length a2, .int .i64 g, .int .i64 h, .int .u64 seq, .int .i64 pos, .slice A3 maps.length a3, .bool false] 33))
      have r := Blk.new (w.alloc (.cells #[.string (bs D.data), .slice A1 D.cache.length a1, .int .i64 D.fuse, .bool D.off, .slice A2 D.bad.length a2, .int .i64 g, .int .i64 h, .int .u64 seq, .int .i64 pos, .slice A3 maps.length a3, .bool false] 33)) 33 #[.string (bs D.data), .slice A1 D.cache.length a1, .int .i64 D.fuse, .bool D.off, .slice A2 D.bad.length a2, .int .i64 g, .int .i64 h, .int .u64 seq, .int .i64 pos, .slice A3 maps.length a3, .bool false]
      simp only [World.size_alloc] at r
      have rk := blk11 r
      have hB_4 := hB_1.alloc hB_1.size (.cells #[.string (bs D.data), .slice A1 D.cache.length a1, .int .i64 D.fuse, .bool D.off, .slice A2 D.bad.length a2, .int .i64 g, .int .i64 h, .int .u64 seq, .int .i64 pos, .slice A3 maps.length a3, .bool false] 33)
      have hd_5 := hd_2.below ((Below.refl _ _).alloc (Nat.le_refl _) (.cells #[.string (bs D.data), .slice A1 D.cache.length a1, .int .i64 D.fuse, .bool D.off, .slice A2 D.bad.length a2, .int .i64 g, .int .i64 h, .int .u64 seq, .int .i64 pos, .slice A3 maps.length a3, .bool false] 33))
      have hm_6 := hm_3.below ((Below.refl _ _).alloc (Nat.le_refl _) (.cells #[.string (bs D.data), .slice A1 D.cache.length a1, .int .i64 D.fuse, .bool D.off, .slice A2 D.bad.length a2, .int .i64 g, .int .i64 h, .int .u64 seq, .int .i64 pos, .slice A3 maps.length a3, .bool false] 33))
      have x_7 := x.alloc (.cells #[.string (bs D.data), .slice A1 D.cache.length a1, .int .i64 D.fuse, .bool D.off, .slice A2 D.bad.length a2, .int .i64 g, .int .i64 h, .int .u64 seq, .int .i64 pos, .slice A3 maps.length a3, .bool false] 33)
      have xk_7 := blk11 x_7
      have yy := rk
      have bw := hB_4
      have dw := hd_5
      have mw := hm_6
      go_enter Tryz.func16, Tryz.ntmps16
      go_wp2_with fail
      refine bodyPost_ret (v := .tuple #[imval ⟨D, g, h, ⟨seq, pos⟩, maps, false⟩ ⟨A1, a1⟩ ⟨A2, a2⟩ ⟨A3, a3⟩, .int .i64 10]) (by simp [results, Tryz.results16, go_sem, yy]) rfl ?_
      rw [Hr.out]
      exact ⟨⟨⟨A1, a1⟩, ⟨A2, a2⟩, ⟨A3, a3⟩, rfl, ⟨dw, mw⟩, fun _ _ h => h⟩, bw⟩
    · by_cases h1 : g ≤ u
      · skip
        have Hr := hid (show Im.write ⟨D, g, h, ⟨seq, pos⟩, maps, false⟩ u off s = (⟨D, g, h, ⟨seq, pos⟩, maps, false⟩, 10) from (if_neg (by simp)).trans (if_pos hb))
        have t2 : decide (u < 0) = false := decide_eq_false (by omega)
        have t3 : decide (g ≤ u) = true := decide_eq_true (by omega)
        clear hin hb
        clear hI0
        have hB := Below.refl w.heap.size w
        clear or9
        have x := Blk.new w 33 #[.string (bs D.data), .slice A1 D.cache.length a1, .int .i64 D.fuse, .bool D.off, .slice A2 D.bad.length a2, .int .i64 g, .int .i64 h, .int .u64 seq, .int .i64 pos, .slice A3 maps.length a3, .bool false]
        have xk := blk11 x
        have hB_1 := hB.alloc hB.size (.cells #[.string (bs D.data), .slice A1 D.cache.length a1, .int .i64 D.fuse, .bool D.off, .slice A2 D.bad.length a2, .int .i64 g, .int .i64 h, .int .u64 seq, .int .i64 pos, .slice A3 maps.length a3, .bool false] 33)
        have hd_2 := hd.below ((Below.refl _ _).alloc (Nat.le_refl _) (.cells #[.string (bs D.data), .slice A1 D.cache.length a1, .int .i64 D.fuse, .bool D.off, .slice A2 D.bad.length a2, .int .i64 g, .int .i64 h, .int .u64 seq, .int .i64 pos, .slice A3 maps.length a3, .bool false] 33))
        have hm_3 := hm.below ((Below.refl _ _).alloc (Nat.le_refl _) (.cells #[.string (bs D.data), .slice A1 D.cache.length a1, .int .i64 D.fuse, .bool D.off, .slice A2 D.bad.length a2, .int .i64 g, .int .i64 h, .int .u64 seq, .int .i64 pos, .slice A3 maps.length a3, .bool false] 33))
        have r := Blk.new (w.alloc (.cells #[.string (bs D.data), .slice A1 D.cache.length a1, .int .i64 D.fuse, .bool D.off, .slice A2 D.bad.length a2, .int .i64 g, .int .i64 h, .int .u64 seq, .int .i64 pos, .slice A3 maps.length a3, .bool false] 33)) 33 #[.string (bs D.data), .slice A1 D.cache.length a1, .int .i64 D.fuse, .bool D.off, .slice A2 D.bad.length a2, .int .i64 g, .int .i64 h, .int .u64 seq, .int .i64 pos, .slice A3 maps.length a3, .bool false]
        simp only [World.size_alloc] at r
        have rk := blk11 r
        have hB_4 := hB_1.alloc hB_1.size (.cells #[.string (bs D.data), .slice A1 D.cache.length a1, .int .i64 D.fuse, .bool D.off, .slice A2 D.bad.length a2, .int .i64 g, .int .i64 h, .int .u64 seq, .int .i64 pos, .slice A3 maps.length a3, .bool false] 33)
        have hd_5 := hd_2.below ((Below.refl _ _).alloc (Nat.le_refl _) (.cells #[.string (bs D.data), .slice A1 D.cache.length a1, .int .i64 D.fuse, .bool D.off, .slice A2 D.bad.length a2, .int .i64 g, .int .i64 h, .int .u64 seq, .int .i64 pos, .slice A3 maps.length a3, .bool false] 33))
        have hm_6 := hm_3.below ((Below.refl _ _).alloc (Nat.le_refl _) (.cells #[.string (bs D.data), .slice A1 D.cache.length a1, .int .i64 D.fuse, .bool D.off, .slice A2 D.bad.length a2, .int .i64 g, .int .i64 h, .int .u64 seq, .int .i64 pos, .slice A3 maps.length a3, .bool false] 33))
        have x_7 := x.alloc (.cells #[.string (bs D.data), .slice A1 D.cache.length a1, .int .i64 D.fuse, .bool D.off, .slice A2 D.bad.length a2, .int .i64 g, .int .i64 h, .int .u64 seq, .int .i64 pos, .slice A3 maps.length a3, .bool false] 33)
        have xk_7 := blk11 x_7
        have yy := rk
        have bw := hB_4
        have dw := hd_5
        have mw := hm_6
        go_enter Tryz.func16, Tryz.ntmps16
        go_wp2_with fail
        refine bodyPost_ret (v := .tuple #[imval ⟨D, g, h, ⟨seq, pos⟩, maps, false⟩ ⟨A1, a1⟩ ⟨A2, a2⟩ ⟨A3, a3⟩, .int .i64 10]) (by simp [results, Tryz.results16, go_sem, yy]) rfl ?_
        rw [Hr.out]
        exact ⟨⟨⟨A1, a1⟩, ⟨A2, a2⟩, ⟨A3, a3⟩, rfl, ⟨dw, mw⟩, fun _ _ h => h⟩, bw⟩
      · by_cases h2 : off < 0
        · skip
          have Hr := hid (show Im.write ⟨D, g, h, ⟨seq, pos⟩, maps, false⟩ u off s = (⟨D, g, h, ⟨seq, pos⟩, maps, false⟩, 10) from (if_neg (by simp)).trans (if_pos hb))
          have t4 : decide (u < 0) = false := decide_eq_false (by omega)
          have t5 : decide (g ≤ u) = false := decide_eq_false (by omega)
          have t6 : decide (off < 0) = true := decide_eq_true (by omega)
          clear hin hb
          clear hI0
          have hB := Below.refl w.heap.size w
          clear or9
          have x := Blk.new w 33 #[.string (bs D.data), .slice A1 D.cache.length a1, .int .i64 D.fuse, .bool D.off, .slice A2 D.bad.length a2, .int .i64 g, .int .i64 h, .int .u64 seq, .int .i64 pos, .slice A3 maps.length a3, .bool false]
          have xk := blk11 x
          have hB_1 := hB.alloc hB.size (.cells #[.string (bs D.data), .slice A1 D.cache.length a1, .int .i64 D.fuse, .bool D.off, .slice A2 D.bad.length a2, .int .i64 g, .int .i64 h, .int .u64 seq, .int .i64 pos, .slice A3 maps.length a3, .bool false] 33)
          have hd_2 := hd.below ((Below.refl _ _).alloc (Nat.le_refl _) (.cells #[.string (bs D.data), .slice A1 D.cache.length a1, .int .i64 D.fuse, .bool D.off, .slice A2 D.bad.length a2, .int .i64 g, .int .i64 h, .int .u64 seq, .int .i64 pos, .slice A3 maps.length a3, .bool false] 33))
          have hm_3 := hm.below ((Below.refl _ _).alloc (Nat.le_refl _) (.cells #[.string (bs D.data), .slice A1 D.cache.length a1, .int .i64 D.fuse, .bool D.off, .slice A2 D.bad.length a2, .int .i64 g, .int .i64 h, .int .u64 seq, .int .i64 pos, .slice A3 maps.length a3, .bool false] 33))
          have r := Blk.new (w.alloc (.cells #[.string (bs D.data), .slice A1 D.cache.length a1, .int .i64 D.fuse, .bool D.off, .slice A2 D.bad.length a2, .int .i64 g, .int .i64 h, .int .u64 seq, .int .i64 pos, .slice A3 maps.length a3, .bool false] 33)) 33 #[.string (bs D.data), .slice A1 D.cache.length a1, .int .i64 D.fuse, .bool D.off, .slice A2 D.bad.length a2, .int .i64 g, .int .i64 h, .int .u64 seq, .int .i64 pos, .slice A3 maps.length a3, .bool false]
          simp only [World.size_alloc] at r
          have rk := blk11 r
          have hB_4 := hB_1.alloc hB_1.size (.cells #[.string (bs D.data), .slice A1 D.cache.length a1, .int .i64 D.fuse, .bool D.off, .slice A2 D.bad.length a2, .int .i64 g, .int .i64 h, .int .u64 seq, .int .i64 pos, .slice A3 maps.length a3, .bool false] 33)
          have hd_5 := hd_2.below ((Below.refl _ _).alloc (Nat.le_refl _) (.cells #[.string (bs D.data), .slice A1 D.cache.length a1, .int .i64 D.fuse, .bool D.off, .slice A2 D.bad.length a2, .int .i64 g, .int .i64 h, .int .u64 seq, .int .i64 pos, .slice A3 maps.length a3, .bool false] 33))
          have hm_6 := hm_3.below ((Below.refl _ _).alloc (Nat.le_refl _) (.cells #[.string (bs D.data), .slice A1 D.cache.length a1, .int .i64 D.fuse, .bool D.off, .slice A2 D.bad.length a2, .int .i64 g, .int .i64 h, .int .u64 seq, .int .i64 pos, .slice A3 maps.length a3, .bool false] 33))
          have x_7 := x.alloc (.cells #[.string (bs D.data), .slice A1 D.cache.length a1, .int .i64 D.fuse, .bool D.off, .slice A2 D.bad.length a2, .int .i64 g, .int .i64 h, .int .u64 seq, .int .i64 pos, .slice A3 maps.length a3, .bool false] 33)
          have xk_7 := blk11 x_7
          have yy := rk
          have bw := hB_4
          have dw := hd_5
          have mw := hm_6
          go_enter Tryz.func16, Tryz.ntmps16
          go_wp2_with fail
          refine bodyPost_ret (v := .tuple #[imval ⟨D, g, h, ⟨seq, pos⟩, maps, false⟩ ⟨A1, a1⟩ ⟨A2, a2⟩ ⟨A3, a3⟩, .int .i64 10]) (by simp [results, Tryz.results16, go_sem, yy]) rfl ?_
          rw [Hr.out]
          exact ⟨⟨⟨A1, a1⟩, ⟨A2, a2⟩, ⟨A3, a3⟩, rfl, ⟨dw, mw⟩, fun _ _ h => h⟩, bw⟩
        · by_cases h3 : (128 : Int) < (s.length : Int)
          · skip
            have Hr := hid (show Im.write ⟨D, g, h, ⟨seq, pos⟩, maps, false⟩ u off s = (⟨D, g, h, ⟨seq, pos⟩, maps, false⟩, 10) from (if_neg (by simp)).trans (if_pos hb))
            have t7 : decide (u < 0) = false := decide_eq_false (by omega)
            have t8 : decide (g ≤ u) = false := decide_eq_false (by omega)
            have t9 : decide (off < 0) = false := decide_eq_false (by omega)
            have t10 : decide ((128 : Int) < (s.length : Int)) = true := decide_eq_true (by omega)
            have t11 : decide (128 < s.length) = true := decide_eq_true (by omega)
            clear hin hb
            clear hI0
            have hB := Below.refl w.heap.size w
            clear or9
            have x := Blk.new w 33 #[.string (bs D.data), .slice A1 D.cache.length a1, .int .i64 D.fuse, .bool D.off, .slice A2 D.bad.length a2, .int .i64 g, .int .i64 h, .int .u64 seq, .int .i64 pos, .slice A3 maps.length a3, .bool false]
            have xk := blk11 x
            have hB_1 := hB.alloc hB.size (.cells #[.string (bs D.data), .slice A1 D.cache.length a1, .int .i64 D.fuse, .bool D.off, .slice A2 D.bad.length a2, .int .i64 g, .int .i64 h, .int .u64 seq, .int .i64 pos, .slice A3 maps.length a3, .bool false] 33)
            have hd_2 := hd.below ((Below.refl _ _).alloc (Nat.le_refl _) (.cells #[.string (bs D.data), .slice A1 D.cache.length a1, .int .i64 D.fuse, .bool D.off, .slice A2 D.bad.length a2, .int .i64 g, .int .i64 h, .int .u64 seq, .int .i64 pos, .slice A3 maps.length a3, .bool false] 33))
            have hm_3 := hm.below ((Below.refl _ _).alloc (Nat.le_refl _) (.cells #[.string (bs D.data), .slice A1 D.cache.length a1, .int .i64 D.fuse, .bool D.off, .slice A2 D.bad.length a2, .int .i64 g, .int .i64 h, .int .u64 seq, .int .i64 pos, .slice A3 maps.length a3, .bool false] 33))
            have r := Blk.new (w.alloc (.cells #[.string (bs D.data), .slice A1 D.cache.length a1, .int .i64 D.fuse, .bool D.off, .slice A2 D.bad.length a2, .int .i64 g, .int .i64 h, .int .u64 seq, .int .i64 pos, .slice A3 maps.length a3, .bool false] 33)) 33 #[.string (bs D.data), .slice A1 D.cache.length a1, .int .i64 D.fuse, .bool D.off, .slice A2 D.bad.length a2, .int .i64 g, .int .i64 h, .int .u64 seq, .int .i64 pos, .slice A3 maps.length a3, .bool false]
            simp only [World.size_alloc] at r
            have rk := blk11 r
            have hB_4 := hB_1.alloc hB_1.size (.cells #[.string (bs D.data), .slice A1 D.cache.length a1, .int .i64 D.fuse, .bool D.off, .slice A2 D.bad.length a2, .int .i64 g, .int .i64 h, .int .u64 seq, .int .i64 pos, .slice A3 maps.length a3, .bool false] 33)
            have hd_5 := hd_2.below ((Below.refl _ _).alloc (Nat.le_refl _) (.cells #[.string (bs D.data), .slice A1 D.cache.length a1, .int .i64 D.fuse, .bool D.off, .slice A2 D.bad.length a2, .int .i64 g, .int .i64 h, .int .u64 seq, .int .i64 pos, .slice A3 maps.length a3, .bool false] 33))
            have hm_6 := hm_3.below ((Below.refl _ _).alloc (Nat.le_refl _) (.cells #[.string (bs D.data), .slice A1 D.cache.length a1, .int .i64 D.fuse, .bool D.off, .slice A2 D.bad.length a2, .int .i64 g, .int .i64 h, .int .u64 seq, .int .i64 pos, .slice A3 maps.length a3, .bool false] 33))
            have x_7 := x.alloc (.cells #[.string (bs D.data), .slice A1 D.cache.length a1, .int .i64 D.fuse, .bool D.off, .slice A2 D.bad.length a2, .int .i64 g, .int .i64 h, .int .u64 seq, .int .i64 pos, .slice A3 maps.length a3, .bool false] 33)
            have xk_7 := blk11 x_7
            have yy := rk
            have bw := hB_4
            have dw := hd_5
            have mw := hm_6
            go_enter Tryz.func16, Tryz.ntmps16
            go_wp2_with fail
            refine bodyPost_ret (v := .tuple #[imval ⟨D, g, h, ⟨seq, pos⟩, maps, false⟩ ⟨A1, a1⟩ ⟨A2, a2⟩ ⟨A3, a3⟩, .int .i64 10]) (by simp [results, Tryz.results16, go_sem, yy]) rfl ?_
            rw [Hr.out]
            exact ⟨⟨⟨A1, a1⟩, ⟨A2, a2⟩, ⟨A3, a3⟩, rfl, ⟨dw, mw⟩, fun _ _ h => h⟩, bw⟩
          · skip
            have Hr := hid (show Im.write ⟨D, g, h, ⟨seq, pos⟩, maps, false⟩ u off s = (⟨D, g, h, ⟨seq, pos⟩, maps, false⟩, 10) from (if_neg (by simp)).trans (if_pos hb))
            have t12 : decide (u < 0) = false := decide_eq_false (by omega)
            have t13 : decide (g ≤ u) = false := decide_eq_false (by omega)
            have t14 : decide (off < 0) = false := decide_eq_false (by omega)
            have t15 : decide ((128 : Int) < (s.length : Int)) = false := decide_eq_false (by omega)
            have t16 : decide ((128 : Int) - (s.length : Int) < off) = true := decide_eq_true (by omega)
            have t17 : decide (128 < s.length) = false := decide_eq_false (by omega)
            clear hin hb
            clear hI0
            have hB := Below.refl w.heap.size w
            clear or9
            have x := Blk.new w 33 #[.string (bs D.data), .slice A1 D.cache.length a1, .int .i64 D.fuse, .bool D.off, .slice A2 D.bad.length a2, .int .i64 g, .int .i64 h, .int .u64 seq, .int .i64 pos, .slice A3 maps.length a3, .bool false]
            have xk := blk11 x
            have hB_1 := hB.alloc hB.size (.cells #[.string (bs D.data), .slice A1 D.cache.length a1, .int .i64 D.fuse, .bool D.off, .slice A2 D.bad.length a2, .int .i64 g, .int .i64 h, .int .u64 seq, .int .i64 pos, .slice A3 maps.length a3, .bool false] 33)
            have hd_2 := hd.below ((Below.refl _ _).alloc (Nat.le_refl _) (.cells #[.string (bs D.data), .slice A1 D.cache.length a1, .int .i64 D.fuse, .bool D.off, .slice A2 D.bad.length a2, .int .i64 g, .int .i64 h, .int .u64 seq, .int .i64 pos, .slice A3 maps.length a3, .bool false] 33))
            have hm_3 := hm.below ((Below.refl _ _).alloc (Nat.le_refl _) (.cells #[.string (bs D.data), .slice A1 D.cache.length a1, .int .i64 D.fuse, .bool D.off, .slice A2 D.bad.length a2, .int .i64 g, .int .i64 h, .int .u64 seq, .int .i64 pos, .slice A3 maps.length a3, .bool false] 33))
            have r := Blk.new (w.alloc (.cells #[.string (bs D.data), .slice A1 D.cache.length a1, .int .i64 D.fuse, .bool D.off, .slice A2 D.bad.length a2, .int .i64 g, .int .i64 h, .int .u64 seq, .int .i64 pos, .slice A3 maps.length a3, .bool false] 33)) 33 #[.string (bs D.data), .slice A1 D.cache.length a1, .int .i64 D.fuse, .bool D.off, .slice A2 D.bad.length a2, .int .i64 g, .int .i64 h, .int .u64 seq, .int .i64 pos, .slice A3 maps.length a3, .bool false]
            simp only [World.size_alloc] at r
            have rk := blk11 r
            have hB_4 := hB_1.alloc hB_1.size (.cells #[.string (bs D.data), .slice A1 D.cache.length a1, .int .i64 D.fuse, .bool D.off, .slice A2 D.bad.length a2, .int .i64 g, .int .i64 h, .int .u64 seq, .int .i64 pos, .slice A3 maps.length a3, .bool false] 33)
            have hd_5 := hd_2.below ((Below.refl _ _).alloc (Nat.le_refl _) (.cells #[.string (bs D.data), .slice A1 D.cache.length a1, .int .i64 D.fuse, .bool D.off, .slice A2 D.bad.length a2, .int .i64 g, .int .i64 h, .int .u64 seq, .int .i64 pos, .slice A3 maps.length a3, .bool false] 33))
            have hm_6 := hm_3.below ((Below.refl _ _).alloc (Nat.le_refl _) (.cells #[.string (bs D.data), .slice A1 D.cache.length a1, .int .i64 D.fuse, .bool D.off, .slice A2 D.bad.length a2, .int .i64 g, .int .i64 h, .int .u64 seq, .int .i64 pos, .slice A3 maps.length a3, .bool false] 33))
            have x_7 := x.alloc (.cells #[.string (bs D.data), .slice A1 D.cache.length a1, .int .i64 D.fuse, .bool D.off, .slice A2 D.bad.length a2, .int .i64 g, .int .i64 h, .int .u64 seq, .int .i64 pos, .slice A3 maps.length a3, .bool false] 33)
            have xk_7 := blk11 x_7
            have yy := rk
            have bw := hB_4
            have dw := hd_5
            have mw := hm_6
            go_enter Tryz.func16, Tryz.ntmps16
            go_wp2_with fail
            refine bodyPost_ret (v := .tuple #[imval ⟨D, g, h, ⟨seq, pos⟩, maps, false⟩ ⟨A1, a1⟩ ⟨A2, a2⟩ ⟨A3, a3⟩, .int .i64 10]) (by simp [results, Tryz.results16, go_sem, yy]) rfl ?_
            rw [Hr.out]
            exact ⟨⟨⟨A1, a1⟩, ⟨A2, a2⟩, ⟨A3, a3⟩, rfl, ⟨dw, mw⟩, fun _ _ h => h⟩, bw⟩
  · have hs0 : s = [] := Classical.byContradiction fun hc => hin ⟨rfl, by omega, by omega, by omega, hc⟩
    subst hs0
    have Hr := hid (show Im.write ⟨D, g, h, ⟨seq, pos⟩, maps, false⟩ u off [] = (⟨D, g, h, ⟨seq, pos⟩, maps, false⟩, 0) from (if_neg (by simp)).trans ((if_neg hb).trans (if_pos rfl)))
    have t18 : decide (u < 0) = false := decide_eq_false (by omega)
    have t19 : decide (g ≤ u) = false := decide_eq_false (by omega)
    have t20 : decide (off < 0) = false := decide_eq_false (by omega)
    have hob : off ≤ 128 := by have := hb; simp only [List.length_nil] at this; omega
    have t21 : decide ((128 : Int) < off) = false := decide_eq_false (by omega)
    clear hin hs64
    clear hI0
    have hB := Below.refl w.heap.size w
    clear or9
    have x := Blk.new w 33 #[.string (bs D.data), .slice A1 D.cache.length a1, .int .i64 D.fuse, .bool D.off, .slice A2 D.bad.length a2, .int .i64 g, .int .i64 h, .int .u64 seq, .int .i64 pos, .slice A3 maps.length a3, .bool false]
    have xk := blk11 x
    have hB_1 := hB.alloc hB.size (.cells #[.string (bs D.data), .slice A1 D.cache.length a1, .int .i64 D.fuse, .bool D.off, .slice A2 D.bad.length a2, .int .i64 g, .int .i64 h, .int .u64 seq, .int .i64 pos, .slice A3 maps.length a3, .bool false] 33)
    have hd_2 := hd.below ((Below.refl _ _).alloc (Nat.le_refl _) (.cells #[.string (bs D.data), .slice A1 D.cache.length a1, .int .i64 D.fuse, .bool D.off, .slice A2 D.bad.length a2, .int .i64 g, .int .i64 h, .int .u64 seq, .int .i64 pos, .slice A3 maps.length a3, .bool false] 33))
    have hm_3 := hm.below ((Below.refl _ _).alloc (Nat.le_refl _) (.cells #[.string (bs D.data), .slice A1 D.cache.length a1, .int .i64 D.fuse, .bool D.off, .slice A2 D.bad.length a2, .int .i64 g, .int .i64 h, .int .u64 seq, .int .i64 pos, .slice A3 maps.length a3, .bool false] 33))
    have r := Blk.new (w.alloc (.cells #[.string (bs D.data), .slice A1 D.cache.length a1, .int .i64 D.fuse, .bool D.off, .slice A2 D.bad.length a2, .int .i64 g, .int .i64 h, .int .u64 seq, .int .i64 pos, .slice A3 maps.length a3, .bool false] 33)) 33 #[.string (bs D.data), .slice A1 D.cache.length a1, .int .i64 D.fuse, .bool D.off, .slice A2 D.bad.length a2, .int .i64 g, .int .i64 h, .int .u64 seq, .int .i64 pos, .slice A3 maps.length a3, .bool false]
    simp only [World.size_alloc] at r
    have rk := blk11 r
    have hB_4 := hB_1.alloc hB_1.size (.cells #[.string (bs D.data), .slice A1 D.cache.length a1, .int .i64 D.fuse, .bool D.off, .slice A2 D.bad.length a2, .int .i64 g, .int .i64 h, .int .u64 seq, .int .i64 pos, .slice A3 maps.length a3, .bool false] 33)
    have hd_5 := hd_2.below ((Below.refl _ _).alloc (Nat.le_refl _) (.cells #[.string (bs D.data), .slice A1 D.cache.length a1, .int .i64 D.fuse, .bool D.off, .slice A2 D.bad.length a2, .int .i64 g, .int .i64 h, .int .u64 seq, .int .i64 pos, .slice A3 maps.length a3, .bool false] 33))
    have hm_6 := hm_3.below ((Below.refl _ _).alloc (Nat.le_refl _) (.cells #[.string (bs D.data), .slice A1 D.cache.length a1, .int .i64 D.fuse, .bool D.off, .slice A2 D.bad.length a2, .int .i64 g, .int .i64 h, .int .u64 seq, .int .i64 pos, .slice A3 maps.length a3, .bool false] 33))
    have x_7 := x.alloc (.cells #[.string (bs D.data), .slice A1 D.cache.length a1, .int .i64 D.fuse, .bool D.off, .slice A2 D.bad.length a2, .int .i64 g, .int .i64 h, .int .u64 seq, .int .i64 pos, .slice A3 maps.length a3, .bool false] 33)
    have xk_7 := blk11 x_7
    have yy := rk
    have bw := hB_4
    have dw := hd_5
    have mw := hm_6
    go_enter Tryz.func16, Tryz.ntmps16
    go_wp2_with fail
    refine bodyPost_ret (v := .tuple #[imval ⟨D, g, h, ⟨seq, pos⟩, maps, false⟩ ⟨A1, a1⟩ ⟨A2, a2⟩ ⟨A3, a3⟩, .int .i64 0]) (by simp [results, Tryz.results16, go_sem, yy]) rfl ?_
    rw [Hr.out]
    exact ⟨⟨⟨A1, a1⟩, ⟨A2, a2⟩, ⟨A3, a3⟩, rfl, ⟨dw, mw⟩, fun _ _ h => h⟩, bw⟩
end Go.Proofs.YtlapjkbefkmohaaGreat
