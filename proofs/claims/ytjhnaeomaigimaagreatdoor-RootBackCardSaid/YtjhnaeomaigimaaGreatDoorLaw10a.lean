/- Package cofferdamlaw10: the example. -/
import Derived.Test.YtjhnaeomaigimaaGreatDoorRoot18
import Derived.Test.YtjhnaeomaigimaaGreatDoorDev7
import Derived.Test.YtjhnaeomaigimaaGreatDoorPlan6
set_option linter.unusedVariables false
namespace Go.Proofs.YtjhnaeomaigimaaGreatDoor
open Go.RowKit Go.Shelf
attribute [local go_sem] bs_mk bs_append bs_extract bs_size bs_toList bs_get
def wk10D : Dk := Dk.blank 112
def wk10P : Pn := (Pn.rtSet Pn.none 3 1).1
def wk10Q : Pn := (Pn.snSet wk10D Pn.none 5 ⟨1, 2, [97]⟩).1
set_option maxRecDepth 100000 in
theorem ev10 : wk10D.fit = true ∧ (Pn.rtGet wk10D Pn.none).2 = 14 ∧ (Pn.rtSet Pn.none 3 1).2 = 0 ∧ Pn.rtGet wk10D wk10P = ((3, 1), 0) ∧ (Pn.snSet wk10D Pn.none 5 ⟨1, 2, [97]⟩).2 = 0 ∧
    Pn.snaps wk10D wk10Q = ([Sn.zero, Sn.zero, Sn.zero, Sn.zero, Sn.zero, ⟨1, 2, [97]⟩, Sn.zero, Sn.zero], 0) := by decide +kernel
theorem pn_patch_fit {D : Dk} {L : Pn} (h : L.Fit) (k o : Int) (s : List UInt8) : (Pn.patch D L k o s).1.Fit := by
  rw [Pn.patch]
  split
  · exact h
  · split
    · exact h
    · exact Pn.set_fit h _ _
theorem snSet_fit {D : Dk} {L : Pn} (hD : D.fit = true) (hL : L.Fit) (i : Int) (s : Sn) : (Pn.snSet D L i s).1.Fit := by
  unfold Pn.snSet
  split
  · exact hL
  split
  · exact hL
  · exact pn_patch_fit hL _ _ _
theorem dmSet_fit {L : Pn} (hL : L.Fit) (i : Int) (m : Dm) : (Pn.dmSet L i m).1.Fit := by
  unfold Pn.dmSet
  split
  · exact hL
  split
  · exact hL
  · exact Pn.set_fit hL _ _
theorem rtSet_fit {L : Pn} (hL : L.Fit) (l : Int) (n : Nat) : (Pn.rtSet L l n).1.Fit := by
  unfold Pn.rtSet
  split
  · exact hL
  · exact Pn.set_fit hL _ _
set_option maxRecDepth 100000 in
set_option maxHeartbeats 2000000 in
theorem awake10 (w : World) : Calls Tryz.prog 10 #[] w fun e w' => e = .returned (.bool true) ∧ Below w.heap.size w w' := by
  obtain ⟨e1, e2, e3, e4, e5, e6⟩ := ev10
  have hoff : ∀ (g : Nat) (p q : Pl), DkOff g wk10D p q := fun g p q => ⟨.inl rfl, .inl rfl⟩
  have fP : wk10P.Fit := rtSet_fit Pn.none_fit 3 1
  have fQ : wk10Q.Fit := snSet_fit e1 Pn.none_fit 5 _
  have hn := d_new 112
  rw [show Dk.fresh 112 = (wk10D, 0) from Dk.fresh_blank (n := 112) (by omega) (by omega)] at hn
  have hg0 := fun (W : World) (p q : Pl) (hD : IsDk W wk10D p q) => rt_get wk10D Pn.none p q ⟨none, 0⟩ ⟨none, 0⟩ W hD (isPn_zero _) e1 Pn.none_fit
  have hs1 := fun (W : World) => rt_set Pn.none ⟨none, 0⟩ ⟨none, 0⟩ W (isPn_zero _) (by decide) rfl 3 1 (by decide)
  rw [show Pn.rtSet Pn.none 3 1 = (wk10P, 0) from Prod.ext rfl e3] at hs1
  have hg1 := fun (W : World) (p q p' q' : Pl) (hD : IsDk W wk10D p q) (hL : IsPn W wk10P p' q') => rt_get wk10D wk10P p q p' q' W hD hL e1 fP
  rw [e4] at hg1
  have hs2 := fun (W : World) (p q : Pl) (hD : IsDk W wk10D p q) => rt_setSnap wk10D Pn.none p q ⟨none, 0⟩ ⟨none, 0⟩ W hD (isPn_zero _) e1 Pn.none_fit 5 ⟨1, 2, [97]⟩ (by decide) (by unfold okInt; decide) (by decide) (by unfold okInt; decide)
  rw [show Pn.snSet wk10D Pn.none 5 ⟨1, 2, [97]⟩ = (wk10Q, 0) from Prod.ext rfl e5] at hs2
  have hl := fun (W : World) (p q p' q' : Pl) (hD : IsDk W wk10D p q) (hL : IsPn W wk10Q p' q') => rt_snaps wk10D wk10Q p q p' q' W hD hL e1 fQ
  rw [e6] at hl
  generalize Pn.rtGet wk10D Pn.none = G0 at *
  obtain ⟨⟨l0, n0⟩, x0⟩ := G0
  simp only at e2 hg0 hg1 hs1 hs2 hl
  subst e2
  clear e1 e3 e4 e5 e6
  generalize wk10D = D0 at *
  generalize wk10P = P0 at *
  generalize wk10Q = Q0 at *
  have hB := Below.refl w.heap.size w
  go_enter Tryz.func10, Tryz.ntmps10
  go_wp2_with fail
  go_at_call 42
  refine ((hn _)).mono ?_
  rintro e w1 ⟨⟨p1, q1, rfl, d1⟩, hb1⟩
  replace hB := bt hB hb1
  have x := Blk.new w1 25 #[.string (bs D0.data), .slice p1.a D0.cache.length p1.c, .int .i64 D0.fuse, .bool D0.off, .slice q1.a D0.bad.length q1.c]
  have xk := blk5 x
  have hB_1 := hB.alloc hB.size (.cells #[.string (bs D0.data), .slice p1.a D0.cache.length p1.c, .int .i64 D0.fuse, .bool D0.off, .slice q1.a D0.bad.length q1.c] 25)
  have d1_2 := d1.below ((Below.refl _ _).alloc (Nat.le_refl _) (.cells #[.string (bs D0.data), .slice p1.a D0.cache.length p1.c, .int .i64 D0.fuse, .bool D0.off, .slice q1.a D0.bad.length q1.c] 25))
  go_wp2_with fail
  go_at_call 24
  refine ((hg0 _ p1 q1 d1_2)).mono ?_
  rintro e w2 ⟨rfl, hb2⟩
  replace hB := bt hB_1 hb2
  replace d1 := d1_2.below hb2
  replace x := x.below hb2 x.lt
  replace xk := blk5 x
  clear hB_1 d1_2
  have r := Blk.new w2 31 #[.int .i64 l0, .int .u32 n0]
  have rk := blk2 r
  have hB_3 := hB.alloc hB.size (.cells #[.int .i64 l0, .int .u32 n0] 31)
  have d1_4 := d1.below ((Below.refl _ _).alloc (Nat.le_refl _) (.cells #[.int .i64 l0, .int .u32 n0] 31))
  have x_5 := x.alloc (.cells #[.int .i64 l0, .int .u32 n0] 31)
  have xk_5 := blk5 x_5
  go_wp2_with fail
  go_at_call 11
  refine ((hs1 _)).mono ?_
  rintro e w3 ⟨⟨p3, q3, rfl, i3, o3⟩, hb3⟩
  replace hB := bt hB_3 hb3
  replace d1 := d1_4.below hb3
  replace x := x_5.below hb3 x_5.lt
  replace xk := blk5 x
  replace r := r.below hb3 r.lt
  replace rk := blk2 r
  clear hB_3 d1_4 xk_5 x_5
  clear o3
  have y := Blk.new w3 28 #[.slice p3.a P0.targets.length p3.c, .slice q3.a P0.data.length q3.c]
  have yk := blk2 y
  have hB_6 := hB.alloc hB.size (.cells #[.slice p3.a P0.targets.length p3.c, .slice q3.a P0.data.length q3.c] 28)
  have d1_7 := d1.below ((Below.refl _ _).alloc (Nat.le_refl _) (.cells #[.slice p3.a P0.targets.length p3.c, .slice q3.a P0.data.length q3.c] 28))
  have x_8 := x.alloc (.cells #[.slice p3.a P0.targets.length p3.c, .slice q3.a P0.data.length q3.c] 28)
  have xk_8 := blk5 x_8
  have r_9 := r.alloc (.cells #[.slice p3.a P0.targets.length p3.c, .slice q3.a P0.data.length q3.c] 28)
  have rk_9 := blk2 r_9
  have i3_10 := i3.below ((Below.refl _ _).alloc (Nat.le_refl _) (.cells #[.slice p3.a P0.targets.length p3.c, .slice q3.a P0.data.length q3.c] 28))
  go_wp2_with fail
  go_at_call 24
  refine ((hg1 _ p1 q1 p3 q3 d1_7 i3_10)).mono ?_
  rintro e w4 ⟨rfl, hb4⟩
  replace hB := bt hB_6 hb4
  replace d1 := d1_7.below hb4
  replace x := x_8.below hb4 x_8.lt
  replace xk := blk5 x
  replace r := r_9.below hb4 r_9.lt
  replace rk := blk2 r
  replace i3 := i3_10.below hb4
  replace y := y.below hb4 y.lt
  replace yk := blk2 y
  clear hB_6 d1_7 xk_8 x_8 rk_9 r_9 i3_10
  have u := Blk.new w4 31 #[.int .i64 3, .int .u32 1]
  have uk := blk2 u
  have hB_11 := hB.alloc hB.size (.cells #[.int .i64 3, .int .u32 1] 31)
  have d1_12 := d1.below ((Below.refl _ _).alloc (Nat.le_refl _) (.cells #[.int .i64 3, .int .u32 1] 31))
  have x_13 := x.alloc (.cells #[.int .i64 3, .int .u32 1] 31)
  have xk_13 := blk5 x_13
  have r_14 := r.alloc (.cells #[.int .i64 3, .int .u32 1] 31)
  have rk_14 := blk2 r_14
  have i3_15 := i3.below ((Below.refl _ _).alloc (Nat.le_refl _) (.cells #[.int .i64 3, .int .u32 1] 31))
  have y_16 := y.alloc (.cells #[.int .i64 3, .int .u32 1] 31)
  have yk_16 := blk2 y_16
  go_wp2_with fail
  go_at_call 13
  refine ((hs2 _ p1 q1 d1_12)).mono ?_
  rintro e w5 ⟨⟨p5, q5, rfl, i5, o5⟩, hb5⟩
  replace hB := bt hB_11 hb5
  replace d1 := d1_12.below hb5
  replace x := x_13.below hb5 x_13.lt
  replace xk := blk5 x
  replace r := r_14.below hb5 r_14.lt
  replace rk := blk2 r
  replace i3 := i3_15.below hb5
  replace y := y_16.below hb5 y_16.lt
  replace yk := blk2 y
  replace u := u.below hb5 u.lt
  replace uk := blk2 u
  clear hB_11 d1_12 xk_13 x_13 rk_14 r_14 i3_15 yk_16 y_16
  clear o5
  have z := Blk.new w5 28 #[.slice p5.a Q0.targets.length p5.c, .slice q5.a Q0.data.length q5.c]
  have zk := blk2 z
  have hB_17 := hB.alloc hB.size (.cells #[.slice p5.a Q0.targets.length p5.c, .slice q5.a Q0.data.length q5.c] 28)
  have d1_18 := d1.below ((Below.refl _ _).alloc (Nat.le_refl _) (.cells #[.slice p5.a Q0.targets.length p5.c, .slice q5.a Q0.data.length q5.c] 28))
  have x_19 := x.alloc (.cells #[.slice p5.a Q0.targets.length p5.c, .slice q5.a Q0.data.length q5.c] 28)
  have xk_19 := blk5 x_19
  have r_20 := r.alloc (.cells #[.slice p5.a Q0.targets.length p5.c, .slice q5.a Q0.data.length q5.c] 28)
  have rk_20 := blk2 r_20
  have i3_21 := i3.below ((Below.refl _ _).alloc (Nat.le_refl _) (.cells #[.slice p5.a Q0.targets.length p5.c, .slice q5.a Q0.data.length q5.c] 28))
  have y_22 := y.alloc (.cells #[.slice p5.a Q0.targets.length p5.c, .slice q5.a Q0.data.length q5.c] 28)
  have yk_22 := blk2 y_22
  have u_23 := u.alloc (.cells #[.slice p5.a Q0.targets.length p5.c, .slice q5.a Q0.data.length q5.c] 28)
  have uk_23 := blk2 u_23
  have i5_24 := i5.below ((Below.refl _ _).alloc (Nat.le_refl _) (.cells #[.slice p5.a Q0.targets.length p5.c, .slice q5.a Q0.data.length q5.c] 28))
  go_wp2_with fail
  go_at_call 25
  refine ((hl _ p1 q1 p5 q5 d1_18 i5_24)).mono ?_
  rintro e w6 ⟨⟨v, rfl, hv⟩, hb6⟩
  replace hB := bt hB_17 hb6
  replace d1 := d1_18.below hb6
  replace x := x_19.below hb6 x_19.lt
  replace xk := blk5 x
  replace r := r_20.below hb6 r_20.lt
  replace rk := blk2 r
  replace i3 := i3_21.below hb6
  replace y := y_22.below hb6 y_22.lt
  replace yk := blk2 y
  replace u := u_23.below hb6 u_23.lt
  replace uk := blk2 u
  replace i5 := i5_24.below hb6
  replace z := z.below hb6 z.lt
  replace zk := blk2 z
  clear hB_17 d1_18 xk_19 x_19 rk_20 r_20 i3_21 yk_22 y_22 uk_23 u_23 i5_24
  obtain ⟨A6, a6, rfl, _, _, _⟩ := own_slice hv
  have cv := Cells.of_own hv
  obtain ⟨b6, o6, rfl, hc⟩ := cv.sn (i := 0) (by decide)
  have k4 := hc 4 (by decide)
  have k5 := (hc 5 (by decide)).2.2
  simp at k4 k5
  clear hv hc cv
  go_wp2_with fail
  go_ret
  exact ⟨rfl, hB⟩
end Go.Proofs.YtjhnaeomaigimaaGreatDoor
