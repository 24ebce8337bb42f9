/- Package cofferdamlaw11: its example. -/
import Derived.Test.YtlajbmmhgflabaaTable7
import Derived.Test.YtlajbmmhgflabaaEx11
import Derived.Test.YtlajbmmhgflabaaPlan6
set_option linter.unusedVariables false
namespace Go.Proofs.Ytlajbmmhgflabaa
open Go.RowKit Go.Shelf
attribute [local go_sem] bs_mk bs_append bs_extract bs_size bs_toList bs_get
attribute [local irreducible] E11p Dk.blank e11_s
set_option maxRecDepth 100000 in
theorem awake11 (w : World) : Calls Try.prog 24 #[] w fun e w' => e = .returned (.bool true) ∧ Below w.heap.size w w' := by
  have hn := d_new 112
  rw [show Dk.fresh 112 = (Dk.blank 112, 0) from Dk.fresh_blank (n := 112) (by omega) (by omega)] at hn
  have hf := Dk.blank_fit (n := 112) (by omega) (by omega)
  have L1 := hid e11_lens.1
  have L2 := hid e11_lens.2
  go_enter Try.func24, Try.ntmps24
  have hB := Below.refl w.heap.size w
  go_wp2_with fail
  go_at_call 48
  refine ((hn _)).mono ?_
  rintro e w1 ⟨⟨p1, q1, rfl, d1⟩, hb1⟩
  replace hB := bt hB hb1
  have x := Blk.new w1 25 #[.string (bs (Dk.blank 112).data), .slice p1.a (Dk.blank 112).cache.length p1.c, .int .i64 (Dk.blank 112).fuse, .bool (Dk.blank 112).off, .slice q1.a (Dk.blank 112).bad.length q1.c]
  have xk := blk5 x
  have hB_1 := hB.alloc hB.size (.cells #[.string (bs (Dk.blank 112).data), .slice p1.a (Dk.blank 112).cache.length p1.c, .int .i64 (Dk.blank 112).fuse, .bool (Dk.blank 112).off, .slice q1.a (Dk.blank 112).bad.length q1.c] 25)
  have d1_2 := d1.below ((Below.refl _ _).alloc (Nat.le_refl _) (.cells #[.string (bs (Dk.blank 112).data), .slice p1.a (Dk.blank 112).cache.length p1.c, .int .i64 (Dk.blank 112).fuse, .bool (Dk.blank 112).off, .slice q1.a (Dk.blank 112).bad.length q1.c] 25))
  have hl := t_find (Dk.blank 112) ⟨[], []⟩ p1 q1 ⟨none, 0⟩ ⟨none, 0⟩ _ d1_2 (isPn_zero _) hf Pn.none_fit 0 5
  rw [show Pn.tabFind (Dk.blank 112) ⟨[], []⟩ 0 5 = ((0, 0), 0) from e11_find] at hl
  go_wp2_with fail
  go_at_call 27
  refine ((hl)).mono ?_
  rintro e w2 ⟨rfl, hb2⟩
  replace hB := bt hB_1 hb2
  replace d1 := d1_2.below hb2
  replace x := x.below hb2 x.lt
  replace xk := blk5 x
  clear hB_1 d1_2
  have u := Blk.new w2 49 #[.int .i64 0, .int .i64 0]
  have uk := blk2 u
  have hB_3 := hB.alloc hB.size (.cells #[.int .i64 0, .int .i64 0] 49)
  have d1_4 := d1.below ((Below.refl _ _).alloc (Nat.le_refl _) (.cells #[.int .i64 0, .int .i64 0] 49))
  have x_5 := x.alloc (.cells #[.int .i64 0, .int .i64 0] 49)
  have xk_5 := blk5 x_5
  have hs := t_set (Dk.blank 112) ⟨[], []⟩ p1 q1 ⟨none, 0⟩ ⟨none, 0⟩ _ d1_4 (isPn_zero _) hf Pn.none_fit 0 1 1 3
  rw [show Pn.tabSet (Dk.blank 112) ⟨[], []⟩ 0 1 1 3 = (E11p, 0) from e11_set] at hs
  go_wp2_with fail
  go_at_call 32
  refine ((hs)).mono ?_
  rintro e w3 ⟨⟨p2, q2, rfl, i2, o2⟩, hb3⟩
  replace hB := bt hB_3 hb3
  replace d1 := d1_4.below hb3
  replace x := x_5.below hb3 x_5.lt
  replace xk := blk5 x
  replace u := u.below hb3 u.lt
  replace uk := blk2 u
  clear hB_3 d1_4 xk_5 x_5
  have y := Blk.new w3 28 #[.slice p2.a E11p.targets.length p2.c, .slice q2.a E11p.data.length q2.c]
  have yk := blk2 y
  have hB_6 := hB.alloc hB.size (.cells #[.slice p2.a E11p.targets.length p2.c, .slice q2.a E11p.data.length q2.c] 28)
  have d1_7 := d1.below ((Below.refl _ _).alloc (Nat.le_refl _) (.cells #[.slice p2.a E11p.targets.length p2.c, .slice q2.a E11p.data.length q2.c] 28))
  have x_8 := x.alloc (.cells #[.slice p2.a E11p.targets.length p2.c, .slice q2.a E11p.data.length q2.c] 28)
  have xk_8 := blk5 x_8
  have u_9 := u.alloc (.cells #[.slice p2.a E11p.targets.length p2.c, .slice q2.a E11p.data.length q2.c] 28)
  have uk_9 := blk2 u_9
  have i2_10 := i2.below ((Below.refl _ _).alloc (Nat.le_refl _) (.cells #[.slice p2.a E11p.targets.length p2.c, .slice q2.a E11p.data.length q2.c] 28))
  have hg := t_get (Dk.blank 112) E11p p1 q1 p2 q2 _ d1_7 i2_10 hf e11_fit 0 1
  rw [e11_get] at hg
  go_wp2_with fail
  go_at_call 25
  refine ((hg)).mono ?_
  rintro e w4 ⟨rfl, hb4⟩
  replace hB := bt hB_6 hb4
  replace d1 := d1_7.below hb4
  replace x := x_8.below hb4 x_8.lt
  replace xk := blk5 x
  replace u := u_9.below hb4 u_9.lt
  replace uk := blk2 u
  replace i2 := i2_10.below hb4
  replace y := y.below hb4 y.lt
  replace yk := blk2 y
  clear hB_6 d1_7 xk_8 x_8 uk_9 u_9 i2_10
  have v := Blk.new w4 49 #[.int .i64 1, .int .i64 3]
  have vk := blk2 v
  have hB_11 := hB.alloc hB.size (.cells #[.int .i64 1, .int .i64 3] 49)
  have d1_12 := d1.below ((Below.refl _ _).alloc (Nat.le_refl _) (.cells #[.int .i64 1, .int .i64 3] 49))
  have x_13 := x.alloc (.cells #[.int .i64 1, .int .i64 3] 49)
  have xk_13 := blk5 x_13
  have u_14 := u.alloc (.cells #[.int .i64 1, .int .i64 3] 49)
  have uk_14 := blk2 u_14
  have i2_15 := i2.below ((Below.refl _ _).alloc (Nat.le_refl _) (.cells #[.int .i64 1, .int .i64 3] 49))
  have y_16 := y.alloc (.cells #[.int .i64 1, .int .i64 3] 49)
  have yk_16 := blk2 y_16
  obtain ⟨P2, c2⟩ := q2
  obtain ⟨b2, f2, e2, hc2⟩ := (i2_15).data.str (i := 0) (by rw [L2.out]; omega)
  simp only at e2
  subst e2
  have k2 := hc2 0 (by rw [L2.out]; omega)
  rw [e11_d0] at k2
  simp only [Nat.add_zero] at k2
  have m2 : ((E11p.data.length : Int) == 1) = true := by rw [L2.out]; rfl
  have n2 : 0 < E11p.data.length := by rw [L2.out]; omega
  have l8 : 8 < e11_s.length := by rw [e11_len]; omega
  have l15 : 15 < e11_s.length := by rw [e11_len]; omega
  have v8 := e11_8 l8
  have v15 := e11_15 l15
  go_wp2_with fail
  go_ret
  exact ⟨rfl, hB_11⟩
end Go.Proofs.Ytlajbmmhgflabaa
