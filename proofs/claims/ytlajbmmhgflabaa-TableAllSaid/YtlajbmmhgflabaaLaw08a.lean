/- Package cofferdamlaw08: its example. -/
import Derived.Test.YtlajbmmhgflabaaRefc2
import Derived.Test.YtlajbmmhgflabaaEx08
import Derived.Test.YtlajbmmhgflabaaPlan6
set_option linter.unusedVariables false
namespace Go.Proofs.Ytlajbmmhgflabaa
open Go.RowKit Go.Shelf
attribute [local go_sem] bs_mk bs_append bs_extract bs_size bs_toList bs_get
attribute [local irreducible] E8p Dk.blank
set_option maxRecDepth 100000 in
theorem awake08 (w : World) : Calls Try.prog 14 #[] w fun e w' => e = .returned (.bool true) ∧ Below w.heap.size w w' := by
  have hn := d_new 112
  rw [show Dk.fresh 112 = (Dk.blank 112, 0) from Dk.fresh_blank (n := 112) (by omega) (by omega)] at hn
  have hf := Dk.blank_fit (n := 112) (by omega) (by omega)
  go_enter Try.func14, Try.ntmps14
  have hB := Below.refl w.heap.size w
  go_wp2_with fail
  go_at_call 48
  refine ((hn _)).mono ?_
  rintro e w1 ⟨⟨p1, q1, rfl, d1⟩, hb1⟩
  replace hB := bt hB hb1
  have x := Blk.new w1 25 #[.string (bs (Dk.blank 112).data), .slice p1.a (Dk.blank 112).cache.length p1.c, .int .i64 (Dk.blank 112).fuse, .bool (Dk.blank 112).off, .slice q1.a (Dk.blank 112).bad.length q1.c]
  have xk := blk5 x
  have hB_1 := hB.alloc hB.size (.cells #[.string (bs (Dk.blank 112).data), .slice p1.a (Dk.blank 112).cache.length p1.c, .int .i64 (Dk.blank 112).fuse, .bool (Dk.blank 112).off, .slice q1.a (Dk.blank 112).bad.length q1.c] 25)
  have d1_2 := d1.below ((Below.refl _ _).alloc (Nat.le_refl _) (.cells #[.string (bs (Dk.blank 112).data), .slice p1.a (Dk.blank 112).cache.length p1.c, .int .i64 (Dk.blank 112).fuse, .bool (Dk.blank 112).off, .slice q1.a (Dk.blank 112).bad.length q1.c] 25))
  have ha := rc_add (Dk.blank 112) ⟨[], []⟩ p1 q1 ⟨none, 0⟩ ⟨none, 0⟩ _ d1_2 (isPn_zero _) hf Pn.none_fit 3 1 (by omega)
  rw [show Pn.cntAdd (Dk.blank 112) ⟨[], []⟩ 3 1 = (E8p, 0) from e8_add] at ha
  go_wp2_with fail
  go_at_call 15
  refine ((ha)).mono ?_
  rintro e w2 ⟨⟨p2, q2, rfl, i2, o2⟩, hb2⟩
  replace hB := bt hB_1 hb2
  replace d1 := d1_2.below hb2
  replace x := x.below hb2 x.lt
  replace xk := blk5 x
  clear hB_1 d1_2
  have y := Blk.new w2 28 #[.slice p2.a E8p.targets.length p2.c, .slice q2.a E8p.data.length q2.c]
  have yk := blk2 y
  have hB_3 := hB.alloc hB.size (.cells #[.slice p2.a E8p.targets.length p2.c, .slice q2.a E8p.data.length q2.c] 28)
  have d1_4 := d1.below ((Below.refl _ _).alloc (Nat.le_refl _) (.cells #[.slice p2.a E8p.targets.length p2.c, .slice q2.a E8p.data.length q2.c] 28))
  have x_5 := x.alloc (.cells #[.slice p2.a E8p.targets.length p2.c, .slice q2.a E8p.data.length q2.c] 28)
  have xk_5 := blk5 x_5
  have i2_6 := i2.below ((Below.refl _ _).alloc (Nat.le_refl _) (.cells #[.slice p2.a E8p.targets.length p2.c, .slice q2.a E8p.data.length q2.c] 28))
  have hg := rc_get (Dk.blank 112) E8p p1 q1 p2 q2 _ d1_4 i2_6 hf e8_fit 3
  rw [e8_get] at hg
  go_wp2_with fail
  go_at_call 17
  refine ((hg)).mono ?_
  rintro e w3 ⟨rfl, hb3⟩
  replace hB := bt hB_3 hb3
  replace d1 := d1_4.below hb3
  replace x := x_5.below hb3 x_5.lt
  replace xk := blk5 x
  replace i2 := i2_6.below hb3
  replace y := y.below hb3 y.lt
  replace yk := blk2 y
  clear hB_3 d1_4 xk_5 x_5 i2_6
  have hm := rc_add (Dk.blank 112) E8p p1 q1 p2 q2 _ d1 i2 hf e8_fit 3 (-2) (by omega)
  rw [e8_not] at hm
  go_wp2_with fail
  go_at_call 15
  refine ((hm)).mono ?_
  rintro e w4 ⟨⟨p4, q4, rfl, i4, o4⟩, hb4⟩
  replace hB := bt hB hb4
  replace d1 := d1.below hb4
  replace x := x.below hb4 x.lt
  replace xk := blk5 x
  replace i2 := i2.below hb4
  replace y := y.below hb4 y.lt
  replace yk := blk2 y
  go_wp2_with fail
  go_ret
  exact ⟨rfl, (hB).alloc (hB).size _⟩
end Go.Proofs.Ytlajbmmhgflabaa
