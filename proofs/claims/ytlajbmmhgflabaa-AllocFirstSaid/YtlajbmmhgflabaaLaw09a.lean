/- Package cofferdamlaw09: its example. -/
import Derived.Test.YtlajbmmhgflabaaAlloc5
import Derived.Test.YtlajbmmhgflabaaAlloc2
import Derived.Test.YtlajbmmhgflabaaEx09
import Derived.Test.YtlajbmmhgflabaaPlan6
import Derived.Test.YtlajbmmhgflabaaTail
set_option linter.unusedVariables false
namespace Go.Proofs.Ytlajbmmhgflabaa
open Go.RowKit Go.Shelf
attribute [local go_sem] bs_mk bs_append bs_extract bs_size bs_toList bs_get
attribute [local irreducible] E9 Dk.blank
set_option maxRecDepth 100000 in
set_option maxHeartbeats 1000000 in
theorem awake09 (w : World) : Calls Try.prog 39 #[] w fun e w' => e = .returned (.bool true) ∧ Below w.heap.size w w' := by
  have hn := d_new 112
  rw [show Dk.fresh 112 = (Dk.blank 112, 0) from Dk.fresh_blank (n := 112) (by omega) (by omega)] at hn
  have hf := Dk.blank_fit (n := 112) (by omega) (by omega)
  have e0 : (⟨[], []⟩ : Pn) = E9 0 := by rw [E9]
  go_enter Try.func39, Try.ntmps39
  have hB := Below.refl w.heap.size w
  go_wp2_with fail
  go_at_call 48
  refine ((hn _)).mono ?_
  rintro e w1 ⟨⟨p1, q1, rfl, d1⟩, hb1⟩
  replace hB := bt hB hb1
  have hs1 : w.heap.size ≤ w1.heap.size := hb1.size
  have hC := Below.refl w1.heap.size w1
  have x := Blk.new w1 25 #[.string (bs (Dk.blank 112).data), .slice p1.a (Dk.blank 112).cache.length p1.c, .int .i64 (Dk.blank 112).fuse, .bool (Dk.blank 112).off, .slice q1.a (Dk.blank 112).bad.length q1.c]
  have xk := blk5 x
  have hB_1 := hB.alloc hB.size (.cells #[.string (bs (Dk.blank 112).data), .slice p1.a (Dk.blank 112).cache.length p1.c, .int .i64 (Dk.blank 112).fuse, .bool (Dk.blank 112).off, .slice q1.a (Dk.blank 112).bad.length q1.c] 25)
  have hC_2 := hC.alloc hC.size (.cells #[.string (bs (Dk.blank 112).data), .slice p1.a (Dk.blank 112).cache.length p1.c, .int .i64 (Dk.blank 112).fuse, .bool (Dk.blank 112).off, .slice q1.a (Dk.blank 112).bad.length q1.c] 25)
  have y := Blk.new (w1.alloc (.cells #[.string (bs (Dk.blank 112).data), .slice p1.a (Dk.blank 112).cache.length p1.c, .int .i64 (Dk.blank 112).fuse, .bool (Dk.blank 112).off, .slice q1.a (Dk.blank 112).bad.length q1.c] 25)) 67 #[.int .i64 1, .int .i64 8]
  simp only [World.size_alloc] at y
  have yk := blk2 y
  have hB_3 := hB_1.alloc hB_1.size (.cells #[.int .i64 1, .int .i64 8] 67)
  have hC_4 := hC_2.alloc hC_2.size (.cells #[.int .i64 1, .int .i64 8] 67)
  have x_5 := x.alloc (.cells #[.int .i64 1, .int .i64 8] 67)
  have xk_5 := blk5 x_5
  have z := Blk.new ((w1.alloc (.cells #[.string (bs (Dk.blank 112).data), .slice p1.a (Dk.blank 112).cache.length p1.c, .int .i64 (Dk.blank 112).fuse, .bool (Dk.blank 112).off, .slice q1.a (Dk.blank 112).bad.length q1.c] 25)).alloc (.cells #[.int .i64 1, .int .i64 8] 67)) 28 #[.slice none 0 0, .slice none 0 0]
  simp only [World.size_alloc] at z
  have zk := blk2 z
  have hB_6 := hB_3.alloc hB_3.size (.cells #[.slice none 0 0, .slice none 0 0] 28)
  have hC_7 := hC_4.alloc hC_4.size (.cells #[.slice none 0 0, .slice none 0 0] 28)
  have x_8 := x_5.alloc (.cells #[.slice none 0 0, .slice none 0 0] 28)
  have xk_8 := blk5 x_8
  have y_9 := y.alloc (.cells #[.slice none 0 0, .slice none 0 0] 28)
  have yk_9 := blk2 y_9
  have L0 : (E9 0).targets.length = 0 ∧ (E9 0).data.length = 0 := by rw [E9]; exact ⟨rfl, rfl⟩
  have P0 : ∀ W, IsPn W (E9 0) ⟨none, 0⟩ ⟨none, 0⟩ := fun W => by rw [E9]; exact isPn_zero W
  have O0 : PnOff (w1.heap.size + 1 + 1) (E9 0) ⟨none, 0⟩ ⟨none, 0⟩ := (P0 w1).apart (by omega)
  have HT := hid (fun (n : Nat) (hn : n ≤ 8) (p2 q2 : Pl) (W : World) (hb : Below w1.heap.size w1 W) (h2 : IsPn W (E9 n) p2 q2) => al_take (Dk.blank 112) (E9 n) p1 q1 p2 q2 W (d1.below hb) h2 hf (e9_fit hn) 1 8 (by omega))
  have HU := hid (fun (p2 q2 : Pl) (W : World) (hb : Below w1.heap.size w1 W) (h2 : IsPn W (E9 8) p2 q2) => al_used (Dk.blank 112) (E9 8) p1 q1 p2 q2 W (d1.below hb) h2 hf (e9_fit (by omega)) 1 8 (by omega))
  simp only [show ((8 : Nat) : Int) = 8 from rfl] at HT HU
  go_wp2_with fail
  go_loopw [20] (fun v W => ∃ n : Nat, n ≤ 8 ∧ v = .int .i64 n ∧ (∃ p2 q2 : Pl, Blk W (w1.heap.size + 1 + 1) 28 #[.slice p2.a (E9 n).targets.length p2.c, .slice q2.a (E9 n).data.length q2.c] ∧ IsPn W (E9 n) p2 q2 ∧ PnOff (w1.heap.size + 1 + 1) (E9 n) p2 q2) ∧
      Blk W w1.heap.size 25 #[.string (bs (Dk.blank 112).data), .slice p1.a (Dk.blank 112).cache.length p1.c, .int .i64 (Dk.blank 112).fuse, .bool (Dk.blank 112).off, .slice q1.a (Dk.blank 112).bad.length q1.c] ∧ Blk W (w1.heap.size + 1) 67 #[.int .i64 1, .int .i64 8] ∧ Below w.heap.size w W ∧ Below w1.heap.size w1 W) (fun v _ => 8 - (intOf v).toNat)
  case atStart => exact ⟨0, by omega, rfl, ⟨⟨none, 0⟩, ⟨none, 0⟩, (by rw [L0.1, L0.2]; exact z), P0 _, O0⟩, x_8, y_9, hB_6, hC_7⟩
  case round =>
    clear L0 P0 O0
    obtain ⟨n, hn, rfl, ⟨p2, q2, z, i2, o2⟩, x, y, hB, hC⟩ := hrel
    by_cases hlt : n < 8
    · have ht := HT.out n hn p2 q2
      rw [e9_take hlt] at ht
      simp only at ht
      have xk := blk5 x
      have yk := blk2 y
      have zk := blk2 z
      have zl := hid z.lt
      go_wp2_with fail
      go_at_call 42
      refine ((ht _ hC i2)).mono ?_
      rintro e w2 ⟨p3, q3, rfl, i3, o3, hb2⟩
      replace hB := bt hB hb2
      replace hC := bt hC hb2
      replace i2 := i2.below hb2
      replace x := x.below hb2 x.lt
      replace xk := blk5 x
      replace y := y.below hb2 y.lt
      replace yk := blk2 y
      replace z := z.below hb2 z.lt
      replace zk := blk2 z
      have o4 := o3 (w1.heap.size + 1 + 1) zl.out o2
      have u := Blk.new w2 28 #[.slice p3.a (E9 (n + 1)).targets.length p3.c, .slice q3.a (E9 (n + 1)).data.length q3.c]
      have uk := blk2 u
      have hB_1 := hB.alloc hB.size (.cells #[.slice p3.a (E9 (n + 1)).targets.length p3.c, .slice q3.a (E9 (n + 1)).data.length q3.c] 28)
      have hC_2 := hC.alloc hC.size (.cells #[.slice p3.a (E9 (n + 1)).targets.length p3.c, .slice q3.a (E9 (n + 1)).data.length q3.c] 28)
      have i2_3 := i2.below ((Below.refl _ _).alloc (Nat.le_refl _) (.cells #[.slice p3.a (E9 (n + 1)).targets.length p3.c, .slice q3.a (E9 (n + 1)).data.length q3.c] 28))
      have x_4 := x.alloc (.cells #[.slice p3.a (E9 (n + 1)).targets.length p3.c, .slice q3.a (E9 (n + 1)).data.length q3.c] 28)
      have xk_4 := blk5 x_4
      have y_5 := y.alloc (.cells #[.slice p3.a (E9 (n + 1)).targets.length p3.c, .slice q3.a (E9 (n + 1)).data.length q3.c] 28)
      have yk_5 := blk2 y_5
      have z_6 := z.alloc (.cells #[.slice p3.a (E9 (n + 1)).targets.length p3.c, .slice q3.a (E9 (n + 1)).data.length q3.c] 28)
      have zk_6 := blk2 z_6
      have i3_7 := i3.below ((Below.refl _ _).alloc (Nat.le_refl _) (.cells #[.slice p3.a (E9 (n + 1)).targets.length p3.c, .slice q3.a (E9 (n + 1)).data.length q3.c] 28))
      have zf := (z_6).frozen
      have hB_8 := below_set2 hB_1 (g := w1.heap.size + 1 + 1) (by omega) (.slice p3.a (E9 (n + 1)).targets.length p3.c) (.slice q3.a (E9 (n + 1)).data.length q3.c)
      have hC_9 := below_set2 hC_2 (g := w1.heap.size + 1 + 1) (by omega) (.slice p3.a (E9 (n + 1)).targets.length p3.c) (.slice q3.a (E9 (n + 1)).data.length q3.c)
      have x_10 := blk_off2 x_4 (g := w1.heap.size + 1 + 1) (by omega) (.slice p3.a (E9 (n + 1)).targets.length p3.c) (.slice q3.a (E9 (n + 1)).data.length q3.c)
      have xk_10 := blk5 x_10
      have y_11 := blk_off2 y_5 (g := w1.heap.size + 1 + 1) (by omega) (.slice p3.a (E9 (n + 1)).targets.length p3.c) (.slice q3.a (E9 (n + 1)).data.length q3.c)
      have yk_11 := blk2 y_11
      have z_12 := blk_set2 z_6 (.slice p3.a (E9 (n + 1)).targets.length p3.c) (.slice q3.a (E9 (n + 1)).data.length q3.c)
      have zk_12 := blk2 z_12
      have i3_13 := i3_7.off2 (g := w1.heap.size + 1 + 1) (by first | assumption | omega) (.slice p3.a (E9 (n + 1)).targets.length p3.c) (.slice q3.a (E9 (n + 1)).data.length q3.c)
      go_wp2_with fail
      go_roundw
      case rel => exact ⟨n + 1, by omega, by go_num, ⟨p3, q3, z_12, i3_13, o4⟩, x_10, y_11, hB_8, hC_9⟩
      case measure => simp [intOf]; omega
    · obtain rfl : n = 8 := by omega
      have ht := HT.out 8 hn p2 q2
      have hu := HU.out p2 q2
      rw [e9_not] at ht
      rw [e9_used] at hu
      simp only at ht hu
      have xk := blk5 x
      have yk := blk2 y
      have zk := blk2 z
      go_wp2_with fail
      go_at_call 42
      refine ((ht _ hC i2)).mono ?_
      rintro e w2 ⟨p3, q3, rfl, i3, o3, hb2⟩
      replace hB := bt hB hb2
      replace hC := bt hC hb2
      replace i2 := i2.below hb2
      replace x := x.below hb2 x.lt
      replace xk := blk5 x
      replace y := y.below hb2 y.lt
      replace yk := blk2 y
      replace z := z.below hb2 z.lt
      replace zk := blk2 z
      have u := Blk.new w2 28 #[.slice p3.a (E9 8).targets.length p3.c, .slice q3.a (E9 8).data.length q3.c]
      have uk := blk2 u
      have hB_1 := hB.alloc hB.size (.cells #[.slice p3.a (E9 8).targets.length p3.c, .slice q3.a (E9 8).data.length q3.c] 28)
      have hC_2 := hC.alloc hC.size (.cells #[.slice p3.a (E9 8).targets.length p3.c, .slice q3.a (E9 8).data.length q3.c] 28)
      have i2_3 := i2.below ((Below.refl _ _).alloc (Nat.le_refl _) (.cells #[.slice p3.a (E9 8).targets.length p3.c, .slice q3.a (E9 8).data.length q3.c] 28))
      have x_4 := x.alloc (.cells #[.slice p3.a (E9 8).targets.length p3.c, .slice q3.a (E9 8).data.length q3.c] 28)
      have xk_4 := blk5 x_4
      have y_5 := y.alloc (.cells #[.slice p3.a (E9 8).targets.length p3.c, .slice q3.a (E9 8).data.length q3.c] 28)
      have yk_5 := blk2 y_5
      have z_6 := z.alloc (.cells #[.slice p3.a (E9 8).targets.length p3.c, .slice q3.a (E9 8).data.length q3.c] 28)
      have zk_6 := blk2 z_6
      go_wp2_with fail
      go_at_call 44
      refine ((hu _ hC_2 i2_3)).mono ?_
      rintro e w3 ⟨rfl, hb3⟩
      replace hB := bt hB_1 hb3
      replace hC := bt hC_2 hb3
      replace i2 := i2_3.below hb3
      replace x := x_4.below hb3 x_4.lt
      replace xk := blk5 x
      replace y := y_5.below hb3 y_5.lt
      replace yk := blk2 y
      replace z := z_6.below hb3 z_6.lt
      replace zk := blk2 z
      replace u := u.below hb3 u.lt
      replace uk := blk2 u
      clear hB_1 hC_2 i2_3 xk_4 x_4 yk_5 y_5 zk_6 z_6
      go_wp2_with fail
      go_ret
      exact ⟨rfl, hB⟩
end Go.Proofs.Ytlajbmmhgflabaa
