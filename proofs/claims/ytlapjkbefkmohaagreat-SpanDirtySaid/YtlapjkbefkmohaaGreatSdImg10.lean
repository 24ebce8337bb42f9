/- Package ref13: the example's image. -/
import Derived.Test.YtlapjkbefkmohaaGreatSdImg9
import Derived.Test.YtlapjkbefkmohaaGreatSdRefcs
import Derived.Test.YtlapjkbefkmohaaGreatSdLay2
import Derived.Test.YtlapjkbefkmohaaGreatSdLay5
import Derived.Test.YtlapjkbefkmohaaGreatSdPlan9
set_option linter.unusedVariables false
namespace Go.Proofs.YtlapjkbefkmohaaGreat
open Go.RowKit Go.Shelf
attribute [local go_sem] bs_mk bs_append bs_extract bs_size bs_toList bs_get
theorem smQ0_fit : smQ0.Fit := Pn.set_fit Pn.none_fit 0 _
theorem smQ_fit : smQ.Fit := by
 unfold smQ Pn.rtSet
 split
 · exact smQ0_fit
 · exact Pn.set_fit smQ0_fit _ _
theorem smP_fit : smP.Fit := Pn.cntAdd_fit ev_small.1 smQ_fit 0 1
set_option maxRecDepth 100000 in
set_option maxHeartbeats 1000000 in
theorem r13_small (w : World) : Calls Tryz.prog 19 #[] w fun e w' => (∃ p q r, e = .returned (imval smI p q r) ∧ IsIm w' smI p q r) ∧ Below w.heap.size w w' := by
 obtain ⟨e1, e2, e3, e4, e5, e6, e7, e8, e9⟩ := ev_small
 have hoff : ∀ (g : Nat) (p q : Pl), DkOff g smD0 p q := fun g p q => ⟨.inl rfl, .inl rfl⟩
 have hn := r1_new 112
 rw [show Dk.fresh 112 = (smD0, 0) from Dk.fresh_blank (n := 112) (by omega) (by omega)] at hn
 have hw4 := r4_write 20 8
 rw [e2] at hw4
 have hl4 : (writeW 20 8).length ≤ 9223372036854775807 := by
  have : (writeW 20 8).length = 64 := by decide +kernel
  omega
 have hset := fun (W : World) => r5_set Pn.none ⟨none, 0⟩ ⟨none, 0⟩ W (isPn_zero _) 0 (by decide) (writeW 20 8) hl4 (by decide) rfl
 rw [show Pn.set Pn.none 0 (writeW 20 8) = (smQ0, 0) from Prod.ext rfl e3] at hset
 have hroot := fun (W : World) (p q : Pl) (hL : IsPn W smQ0 p q) => r10_setR smQ0 p q W hL (by have := smQ0_fit.2.1; omega) smQ0_fit.1 0 1 (by decide)
 rw [show Pn.rtSet smQ0 0 1 = (smQ, 0) from Prod.ext rfl e4] at hroot
 have hadd := fun (W : World) (p q p' q' : Pl) (hD : IsDk W smD0 p q) (hL : IsPn W smQ p' q') => r8_add smD0 smQ p q p' q' W hD hL e1 smQ_fit 0 1 (by decide)
 rw [show Pn.cntAdd smD0 smQ 0 1 = (smP, 0) from Prod.ext rfl e5] at hadd
 have hlay := fun (W : World) (p q p' q' : Pl) (hD : IsDk W smD0 p q) (hL : IsPn W smP p' q') => r5_lay smD0 smP p q p' q' W hD hL smP_fit.1 (by have := smP_fit.2.1; omega)
 rw [show Pn.lay smD0 smP = (smD1, 0) from Prod.ext rfl e6] at hlay
 have hfl := fun (W : World) (p q : Pl) (hD : IsDk W smD1 p q) => r1_flush_n smD1 p q W hD e7
 rw [show smD1.flush = (smD, 0) from Prod.ext rfl e8] at hfl
 have HI := hid (show smI = ⟨smD, 20, 8, ⟨1, 0⟩, [], false⟩ from rfl)
 generalize hI : smI = I0 at *
 clear hI e1 e2 e3 e4 e5 e6 e7 e8 e9 hl4
 generalize smD0 = E0 at *
 generalize smQ0 = Q0 at *
 generalize smQ = Q1 at *
 generalize smP = P0 at *
 generalize smD1 = D1 at *
 generalize smD = D0 at *
 generalize writeW 20 8 = S4 at *
 have hB := Below.refl w.heap.size w
 have r := Blk.new w 33 #[.string (bs []), .slice none 0 0, .int .i64 0, .bool false, .slice none 0 0, .int .i64 0, .int .i64 0, .int .u64 0, .int .i64 0, .slice none 0 0, .bool false]
 have rk := blk11 r
 have rkf := r.frozen
 have hB_1 := hB.alloc hB.size (.cells #[.string (bs []), .slice none 0 0, .int .i64 0, .bool false, .slice none 0 0, .int .i64 0, .int .i64 0, .int .u64 0, .int .i64 0, .slice none 0 0, .bool false] 33)
 go_enter Tryz.func19, Tryz.ntmps19
 go_wp2_with fail
 go_at_call 48
 refine ((hn _)).mono ?_
 rintro e w1 ⟨⟨p1, q1, rfl, d1⟩, hb1⟩
 replace hB := bt hB_1 hb1
 replace r := r.below hb1 r.lt
 replace rk := blk11 r
 replace rkf := r.frozen
 clear hB_1
 have lr1 : w.heap.size < w1.heap.size := (r).lt
 have x := Blk.new w1 25 #[.string (bs E0.data), .slice p1.a E0.cache.length p1.c, .int .i64 E0.fuse, .bool E0.off, .slice q1.a E0.bad.length q1.c]
 have xk := blk5 x
 have xkf := x.frozen
 have hB_2 := hB.alloc hB.size (.cells #[.string (bs E0.data), .slice p1.a E0.cache.length p1.c, .int .i64 E0.fuse, .bool E0.off, .slice q1.a E0.bad.length q1.c] 25)
 have r_3 := r.alloc (.cells #[.string (bs E0.data), .slice p1.a E0.cache.length p1.c, .int .i64 E0.fuse, .bool E0.off, .slice q1.a E0.bad.length q1.c] 25)
 have rk_3 := blk11 r_3
 have rkf_3 := r_3.frozen
 have d1_4 := d1.below ((Below.refl _ _).alloc (Nat.le_refl _) (.cells #[.string (bs E0.data), .slice p1.a E0.cache.length p1.c, .int .i64 E0.fuse, .bool E0.off, .slice q1.a E0.bad.length q1.c] 25))
 go_wp2_with fail
 go_at_call 49
 refine ((hw4 _)).mono ?_
 rintro e w2 ⟨rfl, hb2⟩
 replace hB := bt hB_2 hb2
 replace r := r_3.below hb2 r_3.lt
 replace rk := blk11 r
 replace rkf := r.frozen
 replace d1 := d1_4.below hb2
 replace x := x.below hb2 x.lt
 replace xk := blk5 x
 replace xkf := x.frozen
 clear hB_2 rk_3 rkf_3 r_3 d1_4
 go_wp2_with fail
 go_at_call 50
 refine ((hset _)).mono ?_
 rintro e w3 ⟨⟨p2, q2, rfl, i2, o2⟩, hb3⟩
 replace hB := bt hB hb3
 replace r := r.below hb3 r.lt
 replace rk := blk11 r
 replace rkf := r.frozen
 replace d1 := d1.below hb3
 replace x := x.below hb3 x.lt
 replace xk := blk5 x
 replace xkf := x.frozen
 clear o2
 have lx3 := (x).lt
 have oi2 := i2.apart (Nat.le_refl w3.heap.size)
 have y := Blk.new w3 67 #[.slice p2.a Q0.targets.length p2.c, .slice q2.a Q0.data.length q2.c]
 have yk := blk2 y
 have ykf := y.frozen
 have hB_5 := hB.alloc hB.size (.cells #[.slice p2.a Q0.targets.length p2.c, .slice q2.a Q0.data.length q2.c] 67)
 have r_6 := r.alloc (.cells #[.slice p2.a Q0.targets.length p2.c, .slice q2.a Q0.data.length q2.c] 67)
 have rk_6 := blk11 r_6
 have rkf_6 := r_6.frozen
 have d1_7 := d1.below ((Below.refl _ _).alloc (Nat.le_refl _) (.cells #[.slice p2.a Q0.targets.length p2.c, .slice q2.a Q0.data.length q2.c] 67))
 have x_8 := x.alloc (.cells #[.slice p2.a Q0.targets.length p2.c, .slice q2.a Q0.data.length q2.c] 67)
 have xk_8 := blk5 x_8
 have xkf_8 := x_8.frozen
 have i2_9 := i2.below ((Below.refl _ _).alloc (Nat.le_refl _) (.cells #[.slice p2.a Q0.targets.length p2.c, .slice q2.a Q0.data.length q2.c] 67))
 have ly3 := (y).lt
 go_wp2_with fail
 go_at_call 51
 refine ((hroot _ p2 q2 i2_9)).mono ?_
 rintro e w4 ⟨⟨p3, q3, rfl, i3, o3⟩, hb4⟩
 replace hB := bt hB_5 hb4
 replace r := r_6.below hb4 r_6.lt
 replace rk := blk11 r
 replace rkf := r.frozen
 replace d1 := d1_7.below hb4
 replace x := x_8.below hb4 x_8.lt
 replace xk := blk5 x
 replace xkf := x.frozen
 replace i2 := i2_9.below hb4
 replace y := y.below hb4 y.lt
 replace yk := blk2 y
 replace ykf := y.frozen
 clear hB_5 rk_6 rkf_6 r_6 d1_7 xk_8 xkf_8 x_8 i2_9
 have oi3 := o3 w3.heap.size ly3 oi2
 clear o3
 have od3 := hoff w3.heap.size p1 q1
 have ne1 : w1.heap.size < w3.heap.size := lx3
 have hB_10 := below_set2 hB (g := w3.heap.size) (by omega) (.slice p3.a Q1.targets.length p3.c) (.slice q3.a Q1.data.length q3.c)
 have r_11 := blk_off2 r (g := w3.heap.size) (by omega) (.slice p3.a Q1.targets.length p3.c) (.slice q3.a Q1.data.length q3.c)
 have rk_11 := blk11 r_11
 have rkf_11 := r_11.frozen
 have d1_12 := d1.off2 (g := w3.heap.size) (by first | assumption | omega) (.slice p3.a Q1.targets.length p3.c) (.slice q3.a Q1.data.length q3.c)
 have x_13 := blk_off2 x (g := w3.heap.size) (by omega) (.slice p3.a Q1.targets.length p3.c) (.slice q3.a Q1.data.length q3.c)
 have xk_13 := blk5 x_13
 have xkf_13 := x_13.frozen
 have y_14 := blk_set2 y (.slice p3.a Q1.targets.length p3.c) (.slice q3.a Q1.data.length q3.c)
 have yk_14 := blk2 y_14
 have ykf_14 := y_14.frozen
 have i3_15 := i3.off2 (g := w3.heap.size) (by first | assumption | omega) (.slice p3.a Q1.targets.length p3.c) (.slice q3.a Q1.data.length q3.c)
 have ly4 := (y_14).lt
 go_wp2_with fail
 go_at_call 52
 refine ((hadd _ p1 q1 p3 q3 d1_12 i3_15)).mono ?_
 rintro e w5 ⟨⟨p4, q4, rfl, i4, o4⟩, hb5⟩
 replace hB := bt hB_10 hb5
 replace r := r_11.below hb5 r_11.lt
 replace rk := blk11 r
 replace rkf := r.frozen
 replace d1 := d1_12.below hb5
 replace x := x_13.below hb5 x_13.lt
 replace xk := blk5 x
 replace xkf := x.frozen
 replace y := y_14.below hb5 y_14.lt
 replace yk := blk2 y
 replace ykf := y.frozen
 replace i3 := i3_15.below hb5
 clear hB_10 rk_11 rkf_11 r_11 d1_12 xk_13 xkf_13 x_13 yk_14 ykf_14 y_14 i3_15
 have oi4 := o4 w3.heap.size ly4 oi3
 clear o4
 have hB_16 := below_set2 hB (g := w3.heap.size) (by omega) (.slice p4.a P0.targets.length p4.c) (.slice q4.a P0.data.length q4.c)
 have r_17 := blk_off2 r (g := w3.heap.size) (by omega) (.slice p4.a P0.targets.length p4.c) (.slice q4.a P0.data.length q4.c)
 have rk_17 := blk11 r_17
 have rkf_17 := r_17.frozen
 have d1_18 := d1.off2 (g := w3.heap.size) (by first | assumption | omega) (.slice p4.a P0.targets.length p4.c) (.slice q4.a P0.data.length q4.c)
 have x_19 := blk_off2 x (g := w3.heap.size) (by omega) (.slice p4.a P0.targets.length p4.c) (.slice q4.a P0.data.length q4.c)
 have xk_19 := blk5 x_19
 have xkf_19 := x_19.frozen
 have y_20 := blk_set2 y (.slice p4.a P0.targets.length p4.c) (.slice q4.a P0.data.length q4.c)
 have yk_20 := blk2 y_20
 have ykf_20 := y_20.frozen
 have i4_21 := i4.off2 (g := w3.heap.size) (by first | assumption | omega) (.slice p4.a P0.targets.length p4.c) (.slice q4.a P0.data.length q4.c)
 have lx5 := (x_19).lt
 have lr5 := (r_17).lt
 go_wp2_with fail
 go_at_call 53
 refine ((hlay _ p1 q1 p4 q4 d1_18 i4_21)).mono ?_
 rintro e w6 ⟨⟨p5, q5, rfl, d5, o5⟩, hb6⟩
 replace hB := bt hB_16 hb6
 replace r := r_17.below hb6 r_17.lt
 replace rk := blk11 r
 replace rkf := r.frozen
 replace d1 := d1_18.below hb6
 replace x := x_19.below hb6 x_19.lt
 replace xk := blk5 x
 replace xkf := x.frozen
 replace y := y_20.below hb6 y_20.lt
 replace yk := blk2 y
 replace ykf := y.frozen
 replace i4 := i4_21.below hb6
 clear hB_16 rk_17 rkf_17 r_17 d1_18 xk_19 xkf_19 x_19 yk_20 ykf_20 y_20 i4_21
 have od5 := o5 w1.heap.size lx5 (hoff _ _ _)
 have or5 := o5 w.heap.size lr5 (hoff _ _ _)
 clear o5
 have hB_22 := below_set5 hB (g := w1.heap.size) (by omega) (.string (bs D1.data)) (.slice p5.a D1.cache.length p5.c) (.int .i64 D1.fuse) (.bool D1.off) (.slice q5.a D1.bad.length q5.c)
 have r_23 := blk_off5 r (g := w1.heap.size) (by omega) (.string (bs D1.data)) (.slice p5.a D1.cache.length p5.c) (.int .i64 D1.fuse) (.bool D1.off) (.slice q5.a D1.bad.length q5.c)
 have rk_23 := blk11 r_23
 have rkf_23 := r_23.frozen
 have x_24 := blk_set5 x (.string (bs D1.data)) (.slice p5.a D1.cache.length p5.c) (.int .i64 D1.fuse) (.bool D1.off) (.slice q5.a D1.bad.length q5.c)
 have xk_24 := blk5 x_24
 have xkf_24 := x_24.frozen
 have y_25 := blk_off5 y (g := w1.heap.size) (by omega) (.string (bs D1.data)) (.slice p5.a D1.cache.length p5.c) (.int .i64 D1.fuse) (.bool D1.off) (.slice q5.a D1.bad.length q5.c)
 have yk_25 := blk2 y_25
 have ykf_25 := y_25.frozen
 have d5_26 := d5.off5 (g := w1.heap.size) (by first | assumption | omega) (.string (bs D1.data)) (.slice p5.a D1.cache.length p5.c) (.int .i64 D1.fuse) (.bool D1.off) (.slice q5.a D1.bad.length q5.c)
 have lx6 := (x_24).lt
 have lr6 := (r_23).lt
 go_wp2_with fail
 go_at_call 54
 refine ((hfl _ p5 q5 d5_26)).mono ?_
 rintro e w7 ⟨⟨p6, q6, rfl, d6, o6⟩, hb7⟩
 replace hB := bt hB_22 hb7
 replace r := r_23.below hb7 r_23.lt
 replace rk := blk11 r
 replace rkf := r.frozen
 replace x := x_24.below hb7 x_24.lt
 replace xk := blk5 x
 replace xkf := x.frozen
 replace y := y_25.below hb7 y_25.lt
 replace yk := blk2 y
 replace ykf := y.frozen
 replace d5 := d5_26.below hb7
 clear hB_22 rk_23 rkf_23 r_23 xk_24 xkf_24 x_24 yk_25 ykf_25 y_25 d5_26
 have od6 := o6 w1.heap.size lx6 od5
 have or6 := o6 w.heap.size lr6 or5
 clear o6
 have hB_27 := below_set5 hB (g := w1.heap.size) (by omega) (.string (bs D0.data)) (.slice p6.a D0.cache.length p6.c) (.int .i64 D0.fuse) (.bool D0.off) (.slice q6.a D0.bad.length q6.c)
 have r_28 := blk_off5 r (g := w1.heap.size) (by omega) (.string (bs D0.data)) (.slice p6.a D0.cache.length p6.c) (.int .i64 D0.fuse) (.bool D0.off) (.slice q6.a D0.bad.length q6.c)
 have rk_28 := blk11 r_28
 have rkf_28 := r_28.frozen
 have x_29 := blk_set5 x (.string (bs D0.data)) (.slice p6.a D0.cache.length p6.c) (.int .i64 D0.fuse) (.bool D0.off) (.slice q6.a D0.bad.length q6.c)
 have xk_29 := blk5 x_29
 have xkf_29 := x_29.frozen
 have y_30 := blk_off5 y (g := w1.heap.size) (by omega) (.string (bs D0.data)) (.slice p6.a D0.cache.length p6.c) (.int .i64 D0.fuse) (.bool D0.off) (.slice q6.a D0.bad.length q6.c)
 have yk_30 := blk2 y_30
 have ykf_30 := y_30.frozen
 have d6_31 := d6.off5 (g := w1.heap.size) (by first | assumption | omega) (.string (bs D0.data)) (.slice p6.a D0.cache.length p6.c) (.int .i64 D0.fuse) (.bool D0.off) (.slice q6.a D0.bad.length q6.c)
 have hB_32 := below11 hB_27 (g := w.heap.size) (by omega) (.string (bs D0.data)) (.slice p6.a D0.cache.length p6.c) (.int .i64 D0.fuse) (.bool D0.off) (.slice q6.a D0.bad.length q6.c) (.int .i64 20) (.int .i64 8) (.int .u64 1) (.int .i64 0) (.slice none 0 0) (.bool false)
 have r_33 := blk_set11 r_28 (.string (bs D0.data)) (.slice p6.a D0.cache.length p6.c) (.int .i64 D0.fuse) (.bool D0.off) (.slice q6.a D0.bad.length q6.c) (.int .i64 20) (.int .i64 8) (.int .u64 1) (.int .i64 0) (.slice none 0 0) (.bool false)
 have rk_33 := blk11 r_33
 have rkf_33 := r_33.frozen
 have d6_34 := d6_31.off11 (g := w.heap.size) (by first | assumption | omega) (.string (bs D0.data)) (.slice p6.a D0.cache.length p6.c) (.int .i64 D0.fuse) (.bool D0.off) (.slice q6.a D0.bad.length q6.c) (.int .i64 20) (.int .i64 8) (.int .u64 1) (.int .i64 0) (.slice none 0 0) (.bool false)
 have yy := blk11 r_33
 have dd := d6_34
 have bb := hB_32
 go_wp2_with fail
 refine bodyPost_ret (v := imval ⟨D0, 20, 8, ⟨1, 0⟩, [], false⟩ p6 q6 ⟨none, 0⟩) (by simp [results, Tryz.results19, go_sem, yy]) rfl ?_
 exact ⟨⟨p6, q6, ⟨none, 0⟩, by rw [HI.out], by rw [HI.out]; exact ⟨dd, isMs_nil _⟩⟩, bb⟩
end Go.Proofs.YtlapjkbefkmohaaGreat
