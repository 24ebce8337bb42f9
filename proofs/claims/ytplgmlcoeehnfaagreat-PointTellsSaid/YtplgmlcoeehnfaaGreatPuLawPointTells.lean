/- PointTells: behind a cluster is somewhere else it is there, all others are where they were, and so is all that another first table has, where counts say how often clusters are reached: any device, any plan, any geometry, any cluster, any entry, any other table. No condition. -/
import Derived.Test.YtplgmlcoeehnfaaGreatPuLaw12a
import Derived.Test.YtplgmlcoeehnfaaGreatPuLaw12b
import Derived.Test.YtplgmlcoeehnfaaGreatPuPointsB
import Derived.Test.YtplgmlcoeehnfaaGreatPuTable6
import Derived.Test.YtplgmlcoeehnfaaGreatPuGood3
import Derived.Test.YtplgmlcoeehnfaaGreatPuOpens
set_option linter.unusedVariables false
namespace Go.Proofs.YtplgmlcoeehnfaaGreat.pointTells
open Go.RowKit Go.Shelf Go.WideShapes Go.ChangeShapes Go.ChangeAt
open Go.ChangeMaps (open_string shut_string)
attribute [local go_sem] bs_mk bs_append bs_extract bs_size bs_toList bs_get

set_option maxRecDepth 100000 in
theorem walk_no (D : Dk) (L : Pn) (p q p' q' : Pl) (g h u K A o : Int) (w : World) (h0 : IsDk0 w D p q) (hbl : D.bad.length ≤ 17592186044416) (hL : IsPn w L p' q') (hg : (good D L && geomOk g h) = false) :
    Calls Tryz.prog 3 #[dval D p q, pval L p' q', gval g h, .int .i64 u, eval2 K A, .int .i64 o] w fun e w' => e = .returned (.bool true) ∧ Below w.heap.size w w' := by
  have hG := fun (W : World) (hb : Below w.heap.size w W) => good12 D L p q p' q' g h W (h0.below hb) (hL.below hb) hbl
  rw [hg] at hG
  clear h0 hL hg
  obtain ⟨A1, a1⟩ := p
  obtain ⟨A2, a2⟩ := q
  obtain ⟨B1, b1⟩ := p'
  obtain ⟨B2, b2⟩ := q'
  have hB := Below.refl w.heap.size w
  have x := Blk.new w 25 #[.string (bs D.data), .slice A1 D.cache.length a1, .int .i64 D.fuse, .bool D.off, .slice A2 D.bad.length a2]
  have xk := blk5 x
  have hB_1 := hB.alloc hB.size (.cells #[.string (bs D.data), .slice A1 D.cache.length a1, .int .i64 D.fuse, .bool D.off, .slice A2 D.bad.length a2] 25)
  have z := Blk.new (w.alloc (.cells #[.string (bs D.data), .slice A1 D.cache.length a1, .int .i64 D.fuse, .bool D.off, .slice A2 D.bad.length a2] 25)) 28 #[.slice B1 L.targets.length b1, .slice B2 L.data.length b2]
  simp only [World.size_alloc] at z
  have zk := blk2 z
  have hB_2 := hB_1.alloc hB_1.size (.cells #[.slice B1 L.targets.length b1, .slice B2 L.data.length b2] 28)
  have x_3 := x.alloc (.cells #[.slice B1 L.targets.length b1, .slice B2 L.data.length b2] 28)
  have xk_3 := blk5 x_3
  have y := Blk.new ((w.alloc (.cells #[.string (bs D.data), .slice A1 D.cache.length a1, .int .i64 D.fuse, .bool D.off, .slice A2 D.bad.length a2] 25)).alloc (.cells #[.slice B1 L.targets.length b1, .slice B2 L.data.length b2] 28)) 30 #[.int .i64 g, .int .i64 h]
  simp only [World.size_alloc] at y
  have yk := blk2 y
  have hB_4 := hB_2.alloc hB_2.size (.cells #[.int .i64 g, .int .i64 h] 30)
  have x_5 := x_3.alloc (.cells #[.int .i64 g, .int .i64 h] 30)
  have xk_5 := blk5 x_5
  have z_6 := z.alloc (.cells #[.int .i64 g, .int .i64 h] 30)
  have zk_6 := blk2 z_6
  have v := Blk.new (((w.alloc (.cells #[.string (bs D.data), .slice A1 D.cache.length a1, .int .i64 D.fuse, .bool D.off, .slice A2 D.bad.length a2] 25)).alloc (.cells #[.slice B1 L.targets.length b1, .slice B2 L.data.length b2] 28)).alloc (.cells #[.int .i64 g, .int .i64 h] 30)) 32 #[.int .i64 K, .int .i64 A]
  simp only [World.size_alloc] at v
  have vk := blk2 v
  have hB_7 := hB_4.alloc hB_4.size (.cells #[.int .i64 K, .int .i64 A] 32)
  have x_8 := x_5.alloc (.cells #[.int .i64 K, .int .i64 A] 32)
  have xk_8 := blk5 x_8
  have z_9 := z_6.alloc (.cells #[.int .i64 K, .int .i64 A] 32)
  have zk_9 := blk2 z_9
  have y_10 := y.alloc (.cells #[.int .i64 K, .int .i64 A] 32)
  have yk_10 := blk2 y_10
  go_enter Tryz.func3, Tryz.ntmps3
  go_wp2_with fail
  go_at_call 13
  refine ((hG _ hB_7)).mono ?_
  rintro e w1 ⟨rfl, hb1⟩
  replace hB := bt hB_7 hb1
  replace x := x_8.below hb1 x_8.lt
  replace xk := blk5 x
  replace z := z_9.below hb1 z_9.lt
  replace zk := blk2 z
  replace y := y_10.below hb1 y_10.lt
  replace yk := blk2 y
  replace v := v.below hb1 v.lt
  replace vk := blk2 v
  clear hB_1 hB_2 xk_3 x_3 hB_4 xk_5 x_5 zk_6 z_6 hB_7 xk_8 x_8 zk_9 z_9 yk_10 y_10
  go_wp2_with fail
  go_at_call 14
  refine ((awake12 _)).mono ?_
  rintro e w2 ⟨rfl, hb2⟩
  replace hB := bt hB hb2
  replace x := x.below hb2 x.lt
  replace xk := blk5 x
  replace z := z.below hb2 z.lt
  replace zk := blk2 z
  replace y := y.below hb2 y.lt
  replace yk := blk2 y
  replace v := v.below hb2 v.lt
  replace vk := blk2 v
  go_wp2_with fail
  go_ret
  exact ⟨rfl, hB⟩

set_option maxRecDepth 100000 in
set_option maxHeartbeats 2000000 in
theorem walk_bada (D : Dk) (L : Pn) (p q p' q' : Pl) (g : Int) (h : Nat) (hh : h ≤ 256) (hg64 : g ≤ 64) (u K A o : Int) (hu : -9223372036854775808 ≤ u ∧ u ≤ 9223372036854775807) (w : World) (h0 : IsDk0 w D p q) (hbl : D.bad.length ≤ 17592186044416) (hL : IsPn w L p' q') (hgd : good D L = true) (hgo : geomOk g h = true) (one n : Nat) (U : List (Int × Int)) (Y : Pn) (e f x : Int) (hr : Pn.rtGet D L = ((one, n), e)) (hU : Pn.tabAll D L one = (U, f)) (hY : Pn.ptPoint D L g h u K A = (Y, x)) (he : e ≠ 0) (hx : x = 0) :
    Calls Tryz.prog 3 #[dval D p q, pval L p' q', gval g h, .int .i64 u, eval2 K A, .int .i64 o] w fun e w' => e = .returned (.bool true) ∧ Below w.heap.size w w' := by
  obtain ⟨g1, g2, g3, g4⟩ := good_iff.1 hgd
  have hD := h0.full (by omega) hbl (by omega)
  have hG := fun (W : World) (hb : Below w.heap.size w W) => good12 D L p q p' q' g h W (h0.below hb) (hL.below hb) hbl
  rw [hgd, hgo] at hG
  have hdl := (Dk.fit_parts g3).2.2.1
  have h1 := fun (W : World) (hb : Below w.heap.size w W) => r10_get D L p q p' q' W (hD.below hb) (hL.below hb) g3 g4
  rw [hr] at h1
  have h2 := fun (W : World) (hb : Below w.heap.size w W) => t11_all D L p q p' q' W (hD.below hb) (hL.below hb) g3 g4 one
  rw [hU] at h2
  have h3 := fun (W : World) (hb : Below w.heap.size w W) => p_point D L p q p' q' W (hD.below hb) (hL.below hb) g3 g4 g h hh hg64 u K A hu
  have hYf := Pn.ptPoint_fit (D := D) (L := L) g3 g4 g h u K A
  rw [hY] at h3 hYf
  have h4 := fun (W : World) (p1 q1 : Pl) (h : IsPn W Y p1 q1) => r5_fit Y p1 q1 W h
  rw [Pn.fit_iff.2 hYf] at h4
  simp only at h1 h2 h3
  have ne : (e != 0) = true := by simpa using he
  clear he
  subst hx
  clear h0 hL hgd hgo hD g1 g2 g3 g4 hdl hYf hr hU hY hu
  obtain ⟨A1, a1⟩ := p
  obtain ⟨A2, a2⟩ := q
  obtain ⟨B1, b1⟩ := p'
  obtain ⟨B2, b2⟩ := q'
  have hB := Below.refl w.heap.size w
  have x := Blk.new w 25 #[.string (bs D.data), .slice A1 D.cache.length a1, .int .i64 D.fuse, .bool D.off, .slice A2 D.bad.length a2]
  have xk := blk5 x
  have hB_1 := hB.alloc hB.size (.cells #[.string (bs D.data), .slice A1 D.cache.length a1, .int .i64 D.fuse, .bool D.off, .slice A2 D.bad.length a2] 25)
  have z := Blk.new (w.alloc (.cells #[.string (bs D.data), .slice A1 D.cache.length a1, .int .i64 D.fuse, .bool D.off, .slice A2 D.bad.length a2] 25)) 28 #[.slice B1 L.targets.length b1, .slice B2 L.data.length b2]
  simp only [World.size_alloc] at z
  have zk := blk2 z
  have hB_2 := hB_1.alloc hB_1.size (.cells #[.slice B1 L.targets.length b1, .slice B2 L.data.length b2] 28)
  have x_3 := x.alloc (.cells #[.slice B1 L.targets.length b1, .slice B2 L.data.length b2] 28)
  have xk_3 := blk5 x_3
  have y := Blk.new ((w.alloc (.cells #[.string (bs D.data), .slice A1 D.cache.length a1, .int .i64 D.fuse, .bool D.off, .slice A2 D.bad.length a2] 25)).alloc (.cells #[.slice B1 L.targets.length b1, .slice B2 L.data.length b2] 28)) 30 #[.int .i64 g, .int .i64 h]
  simp only [World.size_alloc] at y
  have yk := blk2 y
  have hB_4 := hB_2.alloc hB_2.size (.cells #[.int .i64 g, .int .i64 h] 30)
  have x_5 := x_3.alloc (.cells #[.int .i64 g, .int .i64 h] 30)
  have xk_5 := blk5 x_5
  have z_6 := z.alloc (.cells #[.int .i64 g, .int .i64 h] 30)
  have zk_6 := blk2 z_6
  have v := Blk.new (((w.alloc (.cells #[.string (bs D.data), .slice A1 D.cache.length a1, .int .i64 D.fuse, .bool D.off, .slice A2 D.bad.length a2] 25)).alloc (.cells #[.slice B1 L.targets.length b1, .slice B2 L.data.length b2] 28)).alloc (.cells #[.int .i64 g, .int .i64 h] 30)) 32 #[.int .i64 K, .int .i64 A]
  simp only [World.size_alloc] at v
  have vk := blk2 v
  have hB_7 := hB_4.alloc hB_4.size (.cells #[.int .i64 K, .int .i64 A] 32)
  have x_8 := x_5.alloc (.cells #[.int .i64 K, .int .i64 A] 32)
  have xk_8 := blk5 x_8
  have z_9 := z_6.alloc (.cells #[.int .i64 K, .int .i64 A] 32)
  have zk_9 := blk2 z_9
  have y_10 := y.alloc (.cells #[.int .i64 K, .int .i64 A] 32)
  have yk_10 := blk2 y_10
  go_enter Tryz.func3, Tryz.ntmps3
  go_wp2_with fail
  go_at_call 13
  refine ((hG _ hB_7)).mono ?_
  rintro e w1 ⟨rfl, hb1⟩
  replace hB := bt hB_7 hb1
  replace x := x_8.below hb1 x_8.lt
  replace xk := blk5 x
  replace z := z_9.below hb1 z_9.lt
  replace zk := blk2 z
  replace y := y_10.below hb1 y_10.lt
  replace yk := blk2 y
  replace v := v.below hb1 v.lt
  replace vk := blk2 v
  clear hB_1 hB_2 xk_3 x_3 hB_4 xk_5 x_5 zk_6 z_6 hB_7 xk_8 x_8 zk_9 z_9 yk_10 y_10
  go_wp2_with fail
  go_at_call 15
  refine ((h1 _ hB)).mono ?_
  rintro e w2 ⟨rfl, hb2⟩
  replace hB := bt hB hb2
  replace x := x.below hb2 x.lt
  replace xk := blk5 x
  replace z := z.below hb2 z.lt
  replace zk := blk2 z
  replace y := y.below hb2 y.lt
  replace yk := blk2 y
  replace v := v.below hb2 v.lt
  replace vk := blk2 v
  have r := Blk.new w2 37 #[.int .i64 one, .int .u32 n]
  have rk := blk2 r
  have hB_11 := hB.alloc hB.size (.cells #[.int .i64 one, .int .u32 n] 37)
  have x_12 := x.alloc (.cells #[.int .i64 one, .int .u32 n] 37)
  have xk_12 := blk5 x_12
  have z_13 := z.alloc (.cells #[.int .i64 one, .int .u32 n] 37)
  have zk_13 := blk2 z_13
  have y_14 := y.alloc (.cells #[.int .i64 one, .int .u32 n] 37)
  have yk_14 := blk2 y_14
  have v_15 := v.alloc (.cells #[.int .i64 one, .int .u32 n] 37)
  have vk_15 := blk2 v_15
  go_wp2_with fail
  go_at_call 16
  refine ((h2 _ hB_11)).mono ?_
  rintro e w3 ⟨⟨v1, rfl, own1⟩, hb3⟩
  replace hB := bt hB_11 hb3
  replace x := x_12.below hb3 x_12.lt
  replace xk := blk5 x
  replace z := z_13.below hb3 z_13.lt
  replace zk := blk2 z
  replace y := y_14.below hb3 y_14.lt
  replace yk := blk2 y
  replace v := v_15.below hb3 v_15.lt
  replace vk := blk2 v
  replace r := r.below hb3 r.lt
  replace rk := blk2 r
  clear hB_11 xk_12 x_12 zk_13 z_13 yk_14 y_14 vk_15 v_15
  obtain ⟨C1, c1, rfl, _⟩ := own_slice own1
  have cc1 := Cells.of_own own1
  go_wp2_with fail
  go_at_call 17
  refine ((h3 _ hB)).mono ?_
  rintro e w4 ⟨⟨pc, qc, rfl, ic, oc⟩, hb4⟩
  replace hB := bt hB hb4
  replace x := x.below hb4 x.lt
  replace xk := blk5 x
  replace z := z.below hb4 z.lt
  replace zk := blk2 z
  replace y := y.below hb4 y.lt
  replace yk := blk2 y
  replace v := v.below hb4 v.lt
  replace vk := blk2 v
  replace r := r.below hb4 r.lt
  replace rk := blk2 r
  replace cc1 := cc1.below hb4
  have bic := Blk.new w4 28 #[.slice pc.a Y.targets.length pc.c, .slice qc.a Y.data.length qc.c]
  have bick := blk2 bic
  have hB_16 := hB.alloc hB.size (.cells #[.slice pc.a Y.targets.length pc.c, .slice qc.a Y.data.length qc.c] 28)
  have x_17 := x.alloc (.cells #[.slice pc.a Y.targets.length pc.c, .slice qc.a Y.data.length qc.c] 28)
  have xk_17 := blk5 x_17
  have z_18 := z.alloc (.cells #[.slice pc.a Y.targets.length pc.c, .slice qc.a Y.data.length qc.c] 28)
  have zk_18 := blk2 z_18
  have y_19 := y.alloc (.cells #[.slice pc.a Y.targets.length pc.c, .slice qc.a Y.data.length qc.c] 28)
  have yk_19 := blk2 y_19
  have v_20 := v.alloc (.cells #[.slice pc.a Y.targets.length pc.c, .slice qc.a Y.data.length qc.c] 28)
  have vk_20 := blk2 v_20
  have r_21 := r.alloc (.cells #[.slice pc.a Y.targets.length pc.c, .slice qc.a Y.data.length qc.c] 28)
  have rk_21 := blk2 r_21
  have cc1_22 := cc1.below ((Below.refl _ _).alloc (Nat.le_refl _) (.cells #[.slice pc.a Y.targets.length pc.c, .slice qc.a Y.data.length qc.c] 28))
  have ic_23 := ic.below ((Below.refl _ _).alloc (Nat.le_refl _) (.cells #[.slice pc.a Y.targets.length pc.c, .slice qc.a Y.data.length qc.c] 28))
  clear own1
  go_wp2_with fail
  go_at_call 18
  refine ((h4 _ pc qc ic_23)).mono ?_
  rintro e w6 ⟨rfl, hb6⟩
  replace hB := bt hB_16 hb6
  replace x := x_17.below hb6 x_17.lt
  replace xk := blk5 x
  replace z := z_18.below hb6 z_18.lt
  replace zk := blk2 z
  replace y := y_19.below hb6 y_19.lt
  replace yk := blk2 y
  replace v := v_20.below hb6 v_20.lt
  replace vk := blk2 v
  replace r := r_21.below hb6 r_21.lt
  replace rk := blk2 r
  replace cc1 := cc1_22.below hb6
  replace ic := ic_23.below hb6
  replace bic := bic.below hb6 bic.lt
  replace bick := blk2 bic
  clear hB_16 xk_17 x_17 zk_18 z_18 yk_19 y_19 vk_20 v_20 rk_21 r_21 cc1_22 ic_23
  go_wp2_with fail
  go_at_call 14
  refine ((awake12 _)).mono ?_
  rintro e w11 ⟨rfl, hb11⟩
  replace hB := bt hB hb11
  replace x := x.below hb11 x.lt
  replace xk := blk5 x
  replace z := z.below hb11 z.lt
  replace zk := blk2 z
  replace y := y.below hb11 y.lt
  replace yk := blk2 y
  replace v := v.below hb11 v.lt
  replace vk := blk2 v
  replace r := r.below hb11 r.lt
  replace rk := blk2 r
  replace cc1 := cc1.below hb11
  replace ic := ic.below hb11
  replace bic := bic.below hb11 bic.lt
  replace bick := blk2 bic
  go_wp2_with fail
  go_ret
  exact ⟨rfl, hB⟩

set_option maxRecDepth 100000 in
set_option maxHeartbeats 2000000 in
theorem walk_badb (D : Dk) (L : Pn) (p q p' q' : Pl) (g : Int) (h : Nat) (hh : h ≤ 256) (hg64 : g ≤ 64) (u K A o : Int) (hu : -9223372036854775808 ≤ u ∧ u ≤ 9223372036854775807) (w : World) (h0 : IsDk0 w D p q) (hbl : D.bad.length ≤ 17592186044416) (hL : IsPn w L p' q') (hgd : good D L = true) (hgo : geomOk g h = true) (one n : Nat) (U : List (Int × Int)) (Y : Pn) (e f x : Int) (hr : Pn.rtGet D L = ((one, n), e)) (hU : Pn.tabAll D L one = (U, f)) (hY : Pn.ptPoint D L g h u K A = (Y, x)) (he : e ≠ 0) (hx : x ≠ 0) (hYL : Y = L) :
    Calls Tryz.prog 3 #[dval D p q, pval L p' q', gval g h, .int .i64 u, eval2 K A, .int .i64 o] w fun e w' => e = .returned (.bool true) ∧ Below w.heap.size w w' := by
  obtain ⟨g1, g2, g3, g4⟩ := good_iff.1 hgd
  have hD := h0.full (by omega) hbl (by omega)
  have hG := fun (W : World) (hb : Below w.heap.size w W) => good12 D L p q p' q' g h W (h0.below hb) (hL.below hb) hbl
  rw [hgd, hgo] at hG
  have hdl := (Dk.fit_parts g3).2.2.1
  have h1 := fun (W : World) (hb : Below w.heap.size w W) => r10_get D L p q p' q' W (hD.below hb) (hL.below hb) g3 g4
  rw [hr] at h1
  have h2 := fun (W : World) (hb : Below w.heap.size w W) => t11_all D L p q p' q' W (hD.below hb) (hL.below hb) g3 g4 one
  rw [hU] at h2
  have h3 := fun (W : World) (hb : Below w.heap.size w W) => p_point D L p q p' q' W (hD.below hb) (hL.below hb) g3 g4 g h hh hg64 u K A hu
  have hYf := Pn.ptPoint_fit (D := D) (L := L) g3 g4 g h u K A
  rw [hY] at h3 hYf
  have h4 := fun (W : World) (p1 q1 : Pl) (h : IsPn W Y p1 q1) => r5_fit Y p1 q1 W h
  rw [Pn.fit_iff.2 hYf] at h4
  simp only at h1 h2 h3
  subst hYL
  have hs := fun (W : World) (hb : Below w.heap.size w W) (p1 q1 : Pl) (h : IsPn W Y p1 q1) => r5_same Y Y p' q' p1 q1 W (hL.below hb) h (by have := g4.2.1; omega) (by have := g4.2.1; have := g4.1; omega) (by have := g4.2.1; omega) (by have := g4.2.1; have := g4.1; omega)
  rw [Pn.same_self] at hs
  have ne : (e != 0) = true := by simpa using he
  clear he
  have nx : (x != 0) = true := by simpa using hx
  have nx' : (x == 0) = false := by simpa using hx
  clear hx
  clear h0 hL hgd hgo hD g1 g2 g3 g4 hdl hYf hr hU hY hu
  obtain ⟨A1, a1⟩ := p
  obtain ⟨A2, a2⟩ := q
  obtain ⟨B1, b1⟩ := p'
  obtain ⟨B2, b2⟩ := q'
  have hB := Below.refl w.heap.size w
  have x := Blk.new w 25 #[.string (bs D.data), .slice A1 D.cache.length a1, .int .i64 D.fuse, .bool D.off, .slice A2 D.bad.length a2]
  have xk := blk5 x
  have hB_1 := hB.alloc hB.size (.cells #[.string (bs D.data), .slice A1 D.cache.length a1, .int .i64 D.fuse, .bool D.off, .slice A2 D.bad.length a2] 25)
  have z := Blk.new (w.alloc (.cells #[.string (bs D.data), .slice A1 D.cache.length a1, .int .i64 D.fuse, .bool D.off, .slice A2 D.bad.length a2] 25)) 28 #[.slice B1 Y.targets.length b1, .slice B2 Y.data.length b2]
  simp only [World.size_alloc] at z
  have zk := blk2 z
  have hB_2 := hB_1.alloc hB_1.size (.cells #[.slice B1 Y.targets.length b1, .slice B2 Y.data.length b2] 28)
  have x_3 := x.alloc (.cells #[.slice B1 Y.targets.length b1, .slice B2 Y.data.length b2] 28)
  have xk_3 := blk5 x_3
  have y := Blk.new ((w.alloc (.cells #[.string (bs D.data), .slice A1 D.cache.length a1, .int .i64 D.fuse, .bool D.off, .slice A2 D.bad.length a2] 25)).alloc (.cells #[.slice B1 Y.targets.length b1, .slice B2 Y.data.length b2] 28)) 30 #[.int .i64 g, .int .i64 h]
  simp only [World.size_alloc] at y
  have yk := blk2 y
  have hB_4 := hB_2.alloc hB_2.size (.cells #[.int .i64 g, .int .i64 h] 30)
  have x_5 := x_3.alloc (.cells #[.int .i64 g, .int .i64 h] 30)
  have xk_5 := blk5 x_5
  have z_6 := z.alloc (.cells #[.int .i64 g, .int .i64 h] 30)
  have zk_6 := blk2 z_6
  have v := Blk.new (((w.alloc (.cells #[.string (bs D.data), .slice A1 D.cache.length a1, .int .i64 D.fuse, .bool D.off, .slice A2 D.bad.length a2] 25)).alloc (.cells #[.slice B1 Y.targets.length b1, .slice B2 Y.data.length b2] 28)).alloc (.cells #[.int .i64 g, .int .i64 h] 30)) 32 #[.int .i64 K, .int .i64 A]
  simp only [World.size_alloc] at v
  have vk := blk2 v
  have hB_7 := hB_4.alloc hB_4.size (.cells #[.int .i64 K, .int .i64 A] 32)
  have x_8 := x_5.alloc (.cells #[.int .i64 K, .int .i64 A] 32)
  have xk_8 := blk5 x_8
  have z_9 := z_6.alloc (.cells #[.int .i64 K, .int .i64 A] 32)
  have zk_9 := blk2 z_9
  have y_10 := y.alloc (.cells #[.int .i64 K, .int .i64 A] 32)
  have yk_10 := blk2 y_10
  go_enter Tryz.func3, Tryz.ntmps3
  go_wp2_with fail
  go_at_call 13
  refine ((hG _ hB_7)).mono ?_
  rintro e w1 ⟨rfl, hb1⟩
  replace hB := bt hB_7 hb1
  replace x := x_8.below hb1 x_8.lt
  replace xk := blk5 x
  replace z := z_9.below hb1 z_9.lt
  replace zk := blk2 z
  replace y := y_10.below hb1 y_10.lt
  replace yk := blk2 y
  replace v := v.below hb1 v.lt
  replace vk := blk2 v
  clear hB_1 hB_2 xk_3 x_3 hB_4 xk_5 x_5 zk_6 z_6 hB_7 xk_8 x_8 zk_9 z_9 yk_10 y_10
  go_wp2_with fail
  go_at_call 15
  refine ((h1 _ hB)).mono ?_
  rintro e w2 ⟨rfl, hb2⟩
  replace hB := bt hB hb2
  replace x := x.below hb2 x.lt
  replace xk := blk5 x
  replace z := z.below hb2 z.lt
  replace zk := blk2 z
  replace y := y.below hb2 y.lt
  replace yk := blk2 y
  replace v := v.below hb2 v.lt
  replace vk := blk2 v
  have r := Blk.new w2 37 #[.int .i64 one, .int .u32 n]
  have rk := blk2 r
  have hB_11 := hB.alloc hB.size (.cells #[.int .i64 one, .int .u32 n] 37)
  have x_12 := x.alloc (.cells #[.int .i64 one, .int .u32 n] 37)
  have xk_12 := blk5 x_12
  have z_13 := z.alloc (.cells #[.int .i64 one, .int .u32 n] 37)
  have zk_13 := blk2 z_13
  have y_14 := y.alloc (.cells #[.int .i64 one, .int .u32 n] 37)
  have yk_14 := blk2 y_14
  have v_15 := v.alloc (.cells #[.int .i64 one, .int .u32 n] 37)
  have vk_15 := blk2 v_15
  go_wp2_with fail
  go_at_call 16
  refine ((h2 _ hB_11)).mono ?_
  rintro e w3 ⟨⟨v1, rfl, own1⟩, hb3⟩
  replace hB := bt hB_11 hb3
  replace x := x_12.below hb3 x_12.lt
  replace xk := blk5 x
  replace z := z_13.below hb3 z_13.lt
  replace zk := blk2 z
  replace y := y_14.below hb3 y_14.lt
  replace yk := blk2 y
  replace v := v_15.below hb3 v_15.lt
  replace vk := blk2 v
  replace r := r.below hb3 r.lt
  replace rk := blk2 r
  clear hB_11 xk_12 x_12 zk_13 z_13 yk_14 y_14 vk_15 v_15
  obtain ⟨C1, c1, rfl, _⟩ := own_slice own1
  have cc1 := Cells.of_own own1
  go_wp2_with fail
  go_at_call 17
  refine ((h3 _ hB)).mono ?_
  rintro e w4 ⟨⟨pc, qc, rfl, ic, oc⟩, hb4⟩
  replace hB := bt hB hb4
  replace x := x.below hb4 x.lt
  replace xk := blk5 x
  replace z := z.below hb4 z.lt
  replace zk := blk2 z
  replace y := y.below hb4 y.lt
  replace yk := blk2 y
  replace v := v.below hb4 v.lt
  replace vk := blk2 v
  replace r := r.below hb4 r.lt
  replace rk := blk2 r
  replace cc1 := cc1.below hb4
  have bic := Blk.new w4 28 #[.slice pc.a Y.targets.length pc.c, .slice qc.a Y.data.length qc.c]
  have bick := blk2 bic
  have hB_16 := hB.alloc hB.size (.cells #[.slice pc.a Y.targets.length pc.c, .slice qc.a Y.data.length qc.c] 28)
  have x_17 := x.alloc (.cells #[.slice pc.a Y.targets.length pc.c, .slice qc.a Y.data.length qc.c] 28)
  have xk_17 := blk5 x_17
  have z_18 := z.alloc (.cells #[.slice pc.a Y.targets.length pc.c, .slice qc.a Y.data.length qc.c] 28)
  have zk_18 := blk2 z_18
  have y_19 := y.alloc (.cells #[.slice pc.a Y.targets.length pc.c, .slice qc.a Y.data.length qc.c] 28)
  have yk_19 := blk2 y_19
  have v_20 := v.alloc (.cells #[.slice pc.a Y.targets.length pc.c, .slice qc.a Y.data.length qc.c] 28)
  have vk_20 := blk2 v_20
  have r_21 := r.alloc (.cells #[.slice pc.a Y.targets.length pc.c, .slice qc.a Y.data.length qc.c] 28)
  have rk_21 := blk2 r_21
  have cc1_22 := cc1.below ((Below.refl _ _).alloc (Nat.le_refl _) (.cells #[.slice pc.a Y.targets.length pc.c, .slice qc.a Y.data.length qc.c] 28))
  have ic_23 := ic.below ((Below.refl _ _).alloc (Nat.le_refl _) (.cells #[.slice pc.a Y.targets.length pc.c, .slice qc.a Y.data.length qc.c] 28))
  clear own1
  go_wp2_with fail
  go_at_call 19
  refine ((hs _ hB_16 pc qc ic_23)).mono ?_
  rintro e w5 ⟨rfl, hb5⟩
  replace hB := bt hB_16 hb5
  replace x := x_17.below hb5 x_17.lt
  replace xk := blk5 x
  replace z := z_18.below hb5 z_18.lt
  replace zk := blk2 z
  replace y := y_19.below hb5 y_19.lt
  replace yk := blk2 y
  replace v := v_20.below hb5 v_20.lt
  replace vk := blk2 v
  replace r := r_21.below hb5 r_21.lt
  replace rk := blk2 r
  replace cc1 := cc1_22.below hb5
  replace ic := ic_23.below hb5
  replace bic := bic.below hb5 bic.lt
  replace bick := blk2 bic
  clear hB_16 xk_17 x_17 zk_18 z_18 yk_19 y_19 vk_20 v_20 rk_21 r_21 cc1_22 ic_23
  go_wp2_with fail
  go_at_call 18
  refine ((h4 _ pc qc ic)).mono ?_
  rintro e w6 ⟨rfl, hb6⟩
  replace hB := bt hB hb6
  replace x := x.below hb6 x.lt
  replace xk := blk5 x
  replace z := z.below hb6 z.lt
  replace zk := blk2 z
  replace y := y.below hb6 y.lt
  replace yk := blk2 y
  replace v := v.below hb6 v.lt
  replace vk := blk2 v
  replace r := r.below hb6 r.lt
  replace rk := blk2 r
  replace cc1 := cc1.below hb6
  replace ic := ic.below hb6
  replace bic := bic.below hb6 bic.lt
  replace bick := blk2 bic
  go_wp2_with fail
  go_at_call 14
  refine ((awake12 _)).mono ?_
  rintro e w11 ⟨rfl, hb11⟩
  replace hB := bt hB hb11
  replace x := x.below hb11 x.lt
  replace xk := blk5 x
  replace z := z.below hb11 z.lt
  replace zk := blk2 z
  replace y := y.below hb11 y.lt
  replace yk := blk2 y
  replace v := v.below hb11 v.lt
  replace vk := blk2 v
  replace r := r.below hb11 r.lt
  replace rk := blk2 r
  replace cc1 := cc1.below hb11
  replace ic := ic.below hb11
  replace bic := bic.below hb11 bic.lt
  replace bick := blk2 bic
  go_wp2_with fail
  go_ret
  exact ⟨rfl, hB⟩

set_option maxRecDepth 100000 in
set_option maxHeartbeats 2000000 in
theorem walk_badc (D : Dk) (L : Pn) (p q p' q' : Pl) (g : Int) (h : Nat) (hh : h ≤ 256) (hg64 : g ≤ 64) (u K A o : Int) (hu : -9223372036854775808 ≤ u ∧ u ≤ 9223372036854775807) (w : World) (h0 : IsDk0 w D p q) (hbl : D.bad.length ≤ 17592186044416) (hL : IsPn w L p' q') (hgd : good D L = true) (hgo : geomOk g h = true) (one n : Nat) (U : List (Int × Int)) (Y : Pn) (e f x : Int) (hr : Pn.rtGet D L = ((one, n), e)) (hU : Pn.tabAll D L one = (U, f)) (hY : Pn.ptPoint D L g h u K A = (Y, x)) (he : e = 0) (hf : f ≠ 0) (hx : x = 0) :
    Calls Tryz.prog 3 #[dval D p q, pval L p' q', gval g h, .int .i64 u, eval2 K A, .int .i64 o] w fun e w' => e = .returned (.bool true) ∧ Below w.heap.size w w' := by
  obtain ⟨g1, g2, g3, g4⟩ := good_iff.1 hgd
  have hD := h0.full (by omega) hbl (by omega)
  have hG := fun (W : World) (hb : Below w.heap.size w W) => good12 D L p q p' q' g h W (h0.below hb) (hL.below hb) hbl
  rw [hgd, hgo] at hG
  have hdl := (Dk.fit_parts g3).2.2.1
  have h1 := fun (W : World) (hb : Below w.heap.size w W) => r10_get D L p q p' q' W (hD.below hb) (hL.below hb) g3 g4
  rw [hr] at h1
  have h2 := fun (W : World) (hb : Below w.heap.size w W) => t11_all D L p q p' q' W (hD.below hb) (hL.below hb) g3 g4 one
  rw [hU] at h2
  have h3 := fun (W : World) (hb : Below w.heap.size w W) => p_point D L p q p' q' W (hD.below hb) (hL.below hb) g3 g4 g h hh hg64 u K A hu
  have hYf := Pn.ptPoint_fit (D := D) (L := L) g3 g4 g h u K A
  rw [hY] at h3 hYf
  have h4 := fun (W : World) (p1 q1 : Pl) (h : IsPn W Y p1 q1) => r5_fit Y p1 q1 W h
  rw [Pn.fit_iff.2 hYf] at h4
  simp only at h1 h2 h3
  subst he
  have nf : (f != 0) = true := by simpa using hf
  clear hf
  subst hx
  clear h0 hL hgd hgo hD g1 g2 g3 g4 hdl hYf hr hU hY hu
  obtain ⟨A1, a1⟩ := p
  obtain ⟨A2, a2⟩ := q
  obtain ⟨B1, b1⟩ := p'
  obtain ⟨B2, b2⟩ := q'
  have hB := Below.refl w.heap.size w
  have x := Blk.new w 25 #[.string (bs D.data), .slice A1 D.cache.length a1, .int .i64 D.fuse, .bool D.off, .slice A2 D.bad.length a2]
  have xk := blk5 x
  have hB_1 := hB.alloc hB.size (.cells #[.string (bs D.data), .slice A1 D.cache.length a1, .int .i64 D.fuse, .bool D.off, .slice A2 D.bad.length a2] 25)
  have z := Blk.new (w.alloc (.cells #[.string (bs D.data), .slice A1 D.cache.length a1, .int .i64 D.fuse, .bool D.off, .slice A2 D.bad.length a2] 25)) 28 #[.slice B1 L.targets.length b1, .slice B2 L.data.length b2]
  simp only [World.size_alloc] at z
  have zk := blk2 z
  have hB_2 := hB_1.alloc hB_1.size (.cells #[.slice B1 L.targets.length b1, .slice B2 L.data.length b2] 28)
  have x_3 := x.alloc (.cells #[.slice B1 L.targets.length b1, .slice B2 L.data.length b2] 28)
  have xk_3 := blk5 x_3
  have y := Blk.new ((w.alloc (.cells #[.string (bs D.data), .slice A1 D.cache.length a1, .int .i64 D.fuse, .bool D.off, .slice A2 D.bad.length a2] 25)).alloc (.cells #[.slice B1 L.targets.length b1, .slice B2 L.data.length b2] 28)) 30 #[.int .i64 g, .int .i64 h]
  simp only [World.size_alloc] at y
  have yk := blk2 y
  have hB_4 := hB_2.alloc hB_2.size (.cells #[.int .i64 g, .int .i64 h] 30)
  have x_5 := x_3.alloc (.cells #[.int .i64 g, .int .i64 h] 30)
  have xk_5 := blk5 x_5
  have z_6 := z.alloc (.cells #[.int .i64 g, .int .i64 h] 30)
  have zk_6 := blk2 z_6
  have v := Blk.new (((w.alloc (.cells #[.string (bs D.data), .slice A1 D.cache.length a1, .int .i64 D.fuse, .bool D.off, .slice A2 D.bad.length a2] 25)).alloc (.cells #[.slice B1 L.targets.length b1, .slice B2 L.data.length b2] 28)).alloc (.cells #[.int .i64 g, .int .i64 h] 30)) 32 #[.int .i64 K, .int .i64 A]
  simp only [World.size_alloc] at v
  have vk := blk2 v
  have hB_7 := hB_4.alloc hB_4.size (.cells #[.int .i64 K, .int .i64 A] 32)
  have x_8 := x_5.alloc (.cells #[.int .i64 K, .int .i64 A] 32)
  have xk_8 := blk5 x_8
  have z_9 := z_6.alloc (.cells #[.int .i64 K, .int .i64 A] 32)
  have zk_9 := blk2 z_9
  have y_10 := y.alloc (.cells #[.int .i64 K, .int .i64 A] 32)
  have yk_10 := blk2 y_10
  go_enter Tryz.func3, Tryz.ntmps3
  go_wp2_with fail
  go_at_call 13
  refine ((hG _ hB_7)).mono ?_
  rintro e w1 ⟨rfl, hb1⟩
  replace hB := bt hB_7 hb1
  replace x := x_8.below hb1 x_8.lt
  replace xk := blk5 x
  replace z := z_9.below hb1 z_9.lt
  replace zk := blk2 z
  replace y := y_10.below hb1 y_10.lt
  replace yk := blk2 y
  replace v := v.below hb1 v.lt
  replace vk := blk2 v
  clear hB_1 hB_2 xk_3 x_3 hB_4 xk_5 x_5 zk_6 z_6 hB_7 xk_8 x_8 zk_9 z_9 yk_10 y_10
  go_wp2_with fail
  go_at_call 15
  refine ((h1 _ hB)).mono ?_
  rintro e w2 ⟨rfl, hb2⟩
  replace hB := bt hB hb2
  replace x := x.below hb2 x.lt
  replace xk := blk5 x
  replace z := z.below hb2 z.lt
  replace zk := blk2 z
  replace y := y.below hb2 y.lt
  replace yk := blk2 y
  replace v := v.below hb2 v.lt
  replace vk := blk2 v
  have r := Blk.new w2 37 #[.int .i64 one, .int .u32 n]
  have rk := blk2 r
  have hB_11 := hB.alloc hB.size (.cells #[.int .i64 one, .int .u32 n] 37)
  have x_12 := x.alloc (.cells #[.int .i64 one, .int .u32 n] 37)
  have xk_12 := blk5 x_12
  have z_13 := z.alloc (.cells #[.int .i64 one, .int .u32 n] 37)
  have zk_13 := blk2 z_13
  have y_14 := y.alloc (.cells #[.int .i64 one, .int .u32 n] 37)
  have yk_14 := blk2 y_14
  have v_15 := v.alloc (.cells #[.int .i64 one, .int .u32 n] 37)
  have vk_15 := blk2 v_15
  go_wp2_with fail
  go_at_call 16
  refine ((h2 _ hB_11)).mono ?_
  rintro e w3 ⟨⟨v1, rfl, own1⟩, hb3⟩
  replace hB := bt hB_11 hb3
  replace x := x_12.below hb3 x_12.lt
  replace xk := blk5 x
  replace z := z_13.below hb3 z_13.lt
  replace zk := blk2 z
  replace y := y_14.below hb3 y_14.lt
  replace yk := blk2 y
  replace v := v_15.below hb3 v_15.lt
  replace vk := blk2 v
  replace r := r.below hb3 r.lt
  replace rk := blk2 r
  clear hB_11 xk_12 x_12 zk_13 z_13 yk_14 y_14 vk_15 v_15
  obtain ⟨C1, c1, rfl, _⟩ := own_slice own1
  have cc1 := Cells.of_own own1
  go_wp2_with fail
  go_at_call 17
  refine ((h3 _ hB)).mono ?_
  rintro e w4 ⟨⟨pc, qc, rfl, ic, oc⟩, hb4⟩
  replace hB := bt hB hb4
  replace x := x.below hb4 x.lt
  replace xk := blk5 x
  replace z := z.below hb4 z.lt
  replace zk := blk2 z
  replace y := y.below hb4 y.lt
  replace yk := blk2 y
  replace v := v.below hb4 v.lt
  replace vk := blk2 v
  replace r := r.below hb4 r.lt
  replace rk := blk2 r
  replace cc1 := cc1.below hb4
  have bic := Blk.new w4 28 #[.slice pc.a Y.targets.length pc.c, .slice qc.a Y.data.length qc.c]
  have bick := blk2 bic
  have hB_16 := hB.alloc hB.size (.cells #[.slice pc.a Y.targets.length pc.c, .slice qc.a Y.data.length qc.c] 28)
  have x_17 := x.alloc (.cells #[.slice pc.a Y.targets.length pc.c, .slice qc.a Y.data.length qc.c] 28)
  have xk_17 := blk5 x_17
  have z_18 := z.alloc (.cells #[.slice pc.a Y.targets.length pc.c, .slice qc.a Y.data.length qc.c] 28)
  have zk_18 := blk2 z_18
  have y_19 := y.alloc (.cells #[.slice pc.a Y.targets.length pc.c, .slice qc.a Y.data.length qc.c] 28)
  have yk_19 := blk2 y_19
  have v_20 := v.alloc (.cells #[.slice pc.a Y.targets.length pc.c, .slice qc.a Y.data.length qc.c] 28)
  have vk_20 := blk2 v_20
  have r_21 := r.alloc (.cells #[.slice pc.a Y.targets.length pc.c, .slice qc.a Y.data.length qc.c] 28)
  have rk_21 := blk2 r_21
  have cc1_22 := cc1.below ((Below.refl _ _).alloc (Nat.le_refl _) (.cells #[.slice pc.a Y.targets.length pc.c, .slice qc.a Y.data.length qc.c] 28))
  have ic_23 := ic.below ((Below.refl _ _).alloc (Nat.le_refl _) (.cells #[.slice pc.a Y.targets.length pc.c, .slice qc.a Y.data.length qc.c] 28))
  clear own1
  go_wp2_with fail
  go_at_call 18
  refine ((h4 _ pc qc ic_23)).mono ?_
  rintro e w6 ⟨rfl, hb6⟩
  replace hB := bt hB_16 hb6
  replace x := x_17.below hb6 x_17.lt
  replace xk := blk5 x
  replace z := z_18.below hb6 z_18.lt
  replace zk := blk2 z
  replace y := y_19.below hb6 y_19.lt
  replace yk := blk2 y
  replace v := v_20.below hb6 v_20.lt
  replace vk := blk2 v
  replace r := r_21.below hb6 r_21.lt
  replace rk := blk2 r
  replace cc1 := cc1_22.below hb6
  replace ic := ic_23.below hb6
  replace bic := bic.below hb6 bic.lt
  replace bick := blk2 bic
  clear hB_16 xk_17 x_17 zk_18 z_18 yk_19 y_19 vk_20 v_20 rk_21 r_21 cc1_22 ic_23
  go_wp2_with fail
  go_at_call 14
  refine ((awake12 _)).mono ?_
  rintro e w11 ⟨rfl, hb11⟩
  replace hB := bt hB hb11
  replace x := x.below hb11 x.lt
  replace xk := blk5 x
  replace z := z.below hb11 z.lt
  replace zk := blk2 z
  replace y := y.below hb11 y.lt
  replace yk := blk2 y
  replace v := v.below hb11 v.lt
  replace vk := blk2 v
  replace r := r.below hb11 r.lt
  replace rk := blk2 r
  replace cc1 := cc1.below hb11
  replace ic := ic.below hb11
  replace bic := bic.below hb11 bic.lt
  replace bick := blk2 bic
  go_wp2_with fail
  go_ret
  exact ⟨rfl, hB⟩

set_option maxRecDepth 100000 in
set_option maxHeartbeats 2000000 in
theorem walk_badd (D : Dk) (L : Pn) (p q p' q' : Pl) (g : Int) (h : Nat) (hh : h ≤ 256) (hg64 : g ≤ 64) (u K A o : Int) (hu : -9223372036854775808 ≤ u ∧ u ≤ 9223372036854775807) (w : World) (h0 : IsDk0 w D p q) (hbl : D.bad.length ≤ 17592186044416) (hL : IsPn w L p' q') (hgd : good D L = true) (hgo : geomOk g h = true) (one n : Nat) (U : List (Int × Int)) (Y : Pn) (e f x : Int) (hr : Pn.rtGet D L = ((one, n), e)) (hU : Pn.tabAll D L one = (U, f)) (hY : Pn.ptPoint D L g h u K A = (Y, x)) (he : e = 0) (hf : f ≠ 0) (hx : x ≠ 0) (hYL : Y = L) :
    Calls Tryz.prog 3 #[dval D p q, pval L p' q', gval g h, .int .i64 u, eval2 K A, .int .i64 o] w fun e w' => e = .returned (.bool true) ∧ Below w.heap.size w w' := by
  obtain ⟨g1, g2, g3, g4⟩ := good_iff.1 hgd
  have hD := h0.full (by omega) hbl (by omega)
  have hG := fun (W : World) (hb : Below w.heap.size w W) => good12 D L p q p' q' g h W (h0.below hb) (hL.below hb) hbl
  rw [hgd, hgo] at hG
  have hdl := (Dk.fit_parts g3).2.2.1
  have h1 := fun (W : World) (hb : Below w.heap.size w W) => r10_get D L p q p' q' W (hD.below hb) (hL.below hb) g3 g4
  rw [hr] at h1
  have h2 := fun (W : World) (hb : Below w.heap.size w W) => t11_all D L p q p' q' W (hD.below hb) (hL.below hb) g3 g4 one
  rw [hU] at h2
  have h3 := fun (W : World) (hb : Below w.heap.size w W) => p_point D L p q p' q' W (hD.below hb) (hL.below hb) g3 g4 g h hh hg64 u K A hu
  have hYf := Pn.ptPoint_fit (D := D) (L := L) g3 g4 g h u K A
  rw [hY] at h3 hYf
  have h4 := fun (W : World) (p1 q1 : Pl) (h : IsPn W Y p1 q1) => r5_fit Y p1 q1 W h
  rw [Pn.fit_iff.2 hYf] at h4
  simp only at h1 h2 h3
  subst hYL
  have hs := fun (W : World) (hb : Below w.heap.size w W) (p1 q1 : Pl) (h : IsPn W Y p1 q1) => r5_same Y Y p' q' p1 q1 W (hL.below hb) h (by have := g4.2.1; omega) (by have := g4.2.1; have := g4.1; omega) (by have := g4.2.1; omega) (by have := g4.2.1; have := g4.1; omega)
  rw [Pn.same_self] at hs
  subst he
  have nf : (f != 0) = true := by simpa using hf
  clear hf
  have nx : (x != 0) = true := by simpa using hx
  have nx' : (x == 0) = false := by simpa using hx
  clear hx
  clear h0 hL hgd hgo hD g1 g2 g3 g4 hdl hYf hr hU hY hu
  obtain ⟨A1, a1⟩ := p
  obtain ⟨A2, a2⟩ := q
  obtain ⟨B1, b1⟩ := p'
  obtain ⟨B2, b2⟩ := q'
  have hB := Below.refl w.heap.size w
  have x := Blk.new w 25 #[.string (bs D.data), .slice A1 D.cache.length a1, .int .i64 D.fuse, .bool D.off, .slice A2 D.bad.length a2]
  have xk := blk5 x
  have hB_1 := hB.alloc hB.size (.cells #[.string (bs D.data), .slice A1 D.cache.length a1, .int .i64 D.fuse, .bool D.off, .slice A2 D.bad.length a2] 25)
  have z := Blk.new (w.alloc (.cells #[.string (bs D.data), .slice A1 D.cache.length a1, .int .i64 D.fuse, .bool D.off, .slice A2 D.bad.length a2] 25)) 28 #[.slice B1 Y.targets.length b1, .slice B2 Y.data.length b2]
  simp only [World.size_alloc] at z
  have zk := blk2 z
  have hB_2 := hB_1.alloc hB_1.size (.cells #[.slice B1 Y.targets.length b1, .slice B2 Y.data.length b2] 28)
  have x_3 := x.alloc (.cells #[.slice B1 Y.targets.length b1, .slice B2 Y.data.length b2] 28)
  have xk_3 := blk5 x_3
  have y := Blk.new ((w.alloc (.cells #[.string (bs D.data), .slice A1 D.cache.length a1, .int .i64 D.fuse, .bool D.off, .slice A2 D.bad.length a2] 25)).alloc (.cells #[.slice B1 Y.targets.length b1, .slice B2 Y.data.length b2] 28)) 30 #[.int .i64 g, .int .i64 h]
  simp only [World.size_alloc] at y
  have yk := blk2 y
  have hB_4 := hB_2.alloc hB_2.size (.cells #[.int .i64 g, .int .i64 h] 30)
  have x_5 := x_3.alloc (.cells #[.int .i64 g, .int .i64 h] 30)
  have xk_5 := blk5 x_5
  have z_6 := z.alloc (.cells #[.int .i64 g, .int .i64 h] 30)
  have zk_6 := blk2 z_6
  have v := Blk.new (((w.alloc (.cells #[.string (bs D.data), .slice A1 D.cache.length a1, .int .i64 D.fuse, .bool D.off, .slice A2 D.bad.length a2] 25)).alloc (.cells #[.slice B1 Y.targets.length b1, .slice B2 Y.data.length b2] 28)).alloc (.cells #[.int .i64 g, .int .i64 h] 30)) 32 #[.int .i64 K, .int .i64 A]
  simp only [World.size_alloc] at v
  have vk := blk2 v
  have hB_7 := hB_4.alloc hB_4.size (.cells #[.int .i64 K, .int .i64 A] 32)
  have x_8 := x_5.alloc (.cells #[.int .i64 K, .int .i64 A] 32)
  have xk_8 := blk5 x_8
  have z_9 := z_6.alloc (.cells #[.int .i64 K, .int .i64 A] 32)
  have zk_9 := blk2 z_9
  have y_10 := y.alloc (.cells #[.int .i64 K, .int .i64 A] 32)
  have yk_10 := blk2 y_10
  go_enter Tryz.func3, Tryz.ntmps3
  go_wp2_with fail
  go_at_call 13
  refine ((hG _ hB_7)).mono ?_
  rintro e w1 ⟨rfl, hb1⟩
  replace hB := bt hB_7 hb1
  replace x := x_8.below hb1 x_8.lt
  replace xk := blk5 x
  replace z := z_9.below hb1 z_9.lt
  replace zk := blk2 z
  replace y := y_10.below hb1 y_10.lt
  replace yk := blk2 y
  replace v := v.below hb1 v.lt
  replace vk := blk2 v
  clear hB_1 hB_2 xk_3 x_3 hB_4 xk_5 x_5 zk_6 z_6 hB_7 xk_8 x_8 zk_9 z_9 yk_10 y_10
  go_wp2_with fail
  go_at_call 15
  refine ((h1 _ hB)).mono ?_
  rintro e w2 ⟨rfl, hb2⟩
  replace hB := bt hB hb2
  replace x := x.below hb2 x.lt
  replace xk := blk5 x
  replace z := z.below hb2 z.lt
  replace zk := blk2 z
  replace y := y.below hb2 y.lt
  replace yk := blk2 y
  replace v := v.below hb2 v.lt
  replace vk := blk2 v
  have r := Blk.new w2 37 #[.int .i64 one, .int .u32 n]
  have rk := blk2 r
  have hB_11 := hB.alloc hB.size (.cells #[.int .i64 one, .int .u32 n] 37)
  have x_12 := x.alloc (.cells #[.int .i64 one, .int .u32 n] 37)
  have xk_12 := blk5 x_12
  have z_13 := z.alloc (.cells #[.int .i64 one, .int .u32 n] 37)
  have zk_13 := blk2 z_13
  have y_14 := y.alloc (.cells #[.int .i64 one, .int .u32 n] 37)
  have yk_14 := blk2 y_14
  have v_15 := v.alloc (.cells #[.int .i64 one, .int .u32 n] 37)
  have vk_15 := blk2 v_15
  go_wp2_with fail
  go_at_call 16
  refine ((h2 _ hB_11)).mono ?_
  rintro e w3 ⟨⟨v1, rfl, own1⟩, hb3⟩
  replace hB := bt hB_11 hb3
  replace x := x_12.below hb3 x_12.lt
  replace xk := blk5 x
  replace z := z_13.below hb3 z_13.lt
  replace zk := blk2 z
  replace y := y_14.below hb3 y_14.lt
  replace yk := blk2 y
  replace v := v_15.below hb3 v_15.lt
  replace vk := blk2 v
  replace r := r.below hb3 r.lt
  replace rk := blk2 r
  clear hB_11 xk_12 x_12 zk_13 z_13 yk_14 y_14 vk_15 v_15
  obtain ⟨C1, c1, rfl, _⟩ := own_slice own1
  have cc1 := Cells.of_own own1
  go_wp2_with fail
  go_at_call 17
  refine ((h3 _ hB)).mono ?_
  rintro e w4 ⟨⟨pc, qc, rfl, ic, oc⟩, hb4⟩
  replace hB := bt hB hb4
  replace x := x.below hb4 x.lt
  replace xk := blk5 x
  replace z := z.below hb4 z.lt
  replace zk := blk2 z
  replace y := y.below hb4 y.lt
  replace yk := blk2 y
  replace v := v.below hb4 v.lt
  replace vk := blk2 v
  replace r := r.below hb4 r.lt
  replace rk := blk2 r
  replace cc1 := cc1.below hb4
  have bic := Blk.new w4 28 #[.slice pc.a Y.targets.length pc.c, .slice qc.a Y.data.length qc.c]
  have bick := blk2 bic
  have hB_16 := hB.alloc hB.size (.cells #[.slice pc.a Y.targets.length pc.c, .slice qc.a Y.data.length qc.c] 28)
  have x_17 := x.alloc (.cells #[.slice pc.a Y.targets.length pc.c, .slice qc.a Y.data.length qc.c] 28)
  have xk_17 := blk5 x_17
  have z_18 := z.alloc (.cells #[.slice pc.a Y.targets.length pc.c, .slice qc.a Y.data.length qc.c] 28)
  have zk_18 := blk2 z_18
  have y_19 := y.alloc (.cells #[.slice pc.a Y.targets.length pc.c, .slice qc.a Y.data.length qc.c] 28)
  have yk_19 := blk2 y_19
  have v_20 := v.alloc (.cells #[.slice pc.a Y.targets.length pc.c, .slice qc.a Y.data.length qc.c] 28)
  have vk_20 := blk2 v_20
  have r_21 := r.alloc (.cells #[.slice pc.a Y.targets.length pc.c, .slice qc.a Y.data.length qc.c] 28)
  have rk_21 := blk2 r_21
  have cc1_22 := cc1.below ((Below.refl _ _).alloc (Nat.le_refl _) (.cells #[.slice pc.a Y.targets.length pc.c, .slice qc.a Y.data.length qc.c] 28))
  have ic_23 := ic.below ((Below.refl _ _).alloc (Nat.le_refl _) (.cells #[.slice pc.a Y.targets.length pc.c, .slice qc.a Y.data.length qc.c] 28))
  clear own1
  go_wp2_with fail
  go_at_call 19
  refine ((hs _ hB_16 pc qc ic_23)).mono ?_
  rintro e w5 ⟨rfl, hb5⟩
  replace hB := bt hB_16 hb5
  replace x := x_17.below hb5 x_17.lt
  replace xk := blk5 x
  replace z := z_18.below hb5 z_18.lt
  replace zk := blk2 z
  replace y := y_19.below hb5 y_19.lt
  replace yk := blk2 y
  replace v := v_20.below hb5 v_20.lt
  replace vk := blk2 v
  replace r := r_21.below hb5 r_21.lt
  replace rk := blk2 r
  replace cc1 := cc1_22.below hb5
  replace ic := ic_23.below hb5
  replace bic := bic.below hb5 bic.lt
  replace bick := blk2 bic
  clear hB_16 xk_17 x_17 zk_18 z_18 yk_19 y_19 vk_20 v_20 rk_21 r_21 cc1_22 ic_23
  go_wp2_with fail
  go_at_call 18
  refine ((h4 _ pc qc ic)).mono ?_
  rintro e w6 ⟨rfl, hb6⟩
  replace hB := bt hB hb6
  replace x := x.below hb6 x.lt
  replace xk := blk5 x
  replace z := z.below hb6 z.lt
  replace zk := blk2 z
  replace y := y.below hb6 y.lt
  replace yk := blk2 y
  replace v := v.below hb6 v.lt
  replace vk := blk2 v
  replace r := r.below hb6 r.lt
  replace rk := blk2 r
  replace cc1 := cc1.below hb6
  replace ic := ic.below hb6
  replace bic := bic.below hb6 bic.lt
  replace bick := blk2 bic
  go_wp2_with fail
  go_at_call 14
  refine ((awake12 _)).mono ?_
  rintro e w11 ⟨rfl, hb11⟩
  replace hB := bt hB hb11
  replace x := x.below hb11 x.lt
  replace xk := blk5 x
  replace z := z.below hb11 z.lt
  replace zk := blk2 z
  replace y := y.below hb11 y.lt
  replace yk := blk2 y
  replace v := v.below hb11 v.lt
  replace vk := blk2 v
  replace r := r.below hb11 r.lt
  replace rk := blk2 r
  replace cc1 := cc1.below hb11
  replace ic := ic.below hb11
  replace bic := bic.below hb11 bic.lt
  replace bick := blk2 bic
  go_wp2_with fail
  go_ret
  exact ⟨rfl, hB⟩

set_option maxRecDepth 100000 in
set_option maxHeartbeats 2000000 in
theorem walk_bade (D : Dk) (L : Pn) (p q p' q' : Pl) (g : Int) (h : Nat) (hh : h ≤ 256) (hg64 : g ≤ 64) (u K A o : Int) (hu : -9223372036854775808 ≤ u ∧ u ≤ 9223372036854775807) (w : World) (h0 : IsDk0 w D p q) (hbl : D.bad.length ≤ 17592186044416) (hL : IsPn w L p' q') (hgd : good D L = true) (hgo : geomOk g h = true) (one n : Nat) (U : List (Int × Int)) (Y : Pn) (e f x : Int) (hr : Pn.rtGet D L = ((one, n), e)) (hU : Pn.tabAll D L one = (U, f)) (hY : Pn.ptPoint D L g h u K A = (Y, x)) (he : e = 0) (hf : f = 0) (hx : x ≠ 0) (hYL : Y = L) :
    Calls Tryz.prog 3 #[dval D p q, pval L p' q', gval g h, .int .i64 u, eval2 K A, .int .i64 o] w fun e w' => e = .returned (.bool true) ∧ Below w.heap.size w w' := by
  obtain ⟨g1, g2, g3, g4⟩ := good_iff.1 hgd
  have hD := h0.full (by omega) hbl (by omega)
  have hG := fun (W : World) (hb : Below w.heap.size w W) => good12 D L p q p' q' g h W (h0.below hb) (hL.below hb) hbl
  rw [hgd, hgo] at hG
  have hdl := (Dk.fit_parts g3).2.2.1
  have h1 := fun (W : World) (hb : Below w.heap.size w W) => r10_get D L p q p' q' W (hD.below hb) (hL.below hb) g3 g4
  rw [hr] at h1
  have h2 := fun (W : World) (hb : Below w.heap.size w W) => t11_all D L p q p' q' W (hD.below hb) (hL.below hb) g3 g4 one
  rw [hU] at h2
  have h3 := fun (W : World) (hb : Below w.heap.size w W) => p_point D L p q p' q' W (hD.below hb) (hL.below hb) g3 g4 g h hh hg64 u K A hu
  have hYf := Pn.ptPoint_fit (D := D) (L := L) g3 g4 g h u K A
  rw [hY] at h3 hYf
  have h4 := fun (W : World) (p1 q1 : Pl) (h : IsPn W Y p1 q1) => r5_fit Y p1 q1 W h
  rw [Pn.fit_iff.2 hYf] at h4
  simp only at h1 h2 h3
  subst hYL
  have hs := fun (W : World) (hb : Below w.heap.size w W) (p1 q1 : Pl) (h : IsPn W Y p1 q1) => r5_same Y Y p' q' p1 q1 W (hL.below hb) h (by have := g4.2.1; omega) (by have := g4.2.1; have := g4.1; omega) (by have := g4.2.1; omega) (by have := g4.2.1; have := g4.1; omega)
  rw [Pn.same_self] at hs
  subst he
  subst hf
  have nx : (x != 0) = true := by simpa using hx
  have nx' : (x == 0) = false := by simpa using hx
  clear hx
  clear h0 hL hgd hgo hD g1 g2 g3 g4 hdl hYf hr hU hY hu
  obtain ⟨A1, a1⟩ := p
  obtain ⟨A2, a2⟩ := q
  obtain ⟨B1, b1⟩ := p'
  obtain ⟨B2, b2⟩ := q'
  have hB := Below.refl w.heap.size w
  have x := Blk.new w 25 #[.string (bs D.data), .slice A1 D.cache.length a1, .int .i64 D.fuse, .bool D.off, .slice A2 D.bad.length a2]
  have xk := blk5 x
  have hB_1 := hB.alloc hB.size (.cells #[.string (bs D.data), .slice A1 D.cache.length a1, .int .i64 D.fuse, .bool D.off, .slice A2 D.bad.length a2] 25)
  have z := Blk.new (w.alloc (.cells #[.string (bs D.data), .slice A1 D.cache.length a1, .int .i64 D.fuse, .bool D.off, .slice A2 D.bad.length a2] 25)) 28 #[.slice B1 Y.targets.length b1, .slice B2 Y.data.length b2]
  simp only [World.size_alloc] at z
  have zk := blk2 z
  have hB_2 := hB_1.alloc hB_1.size (.cells #[.slice B1 Y.targets.length b1, .slice B2 Y.data.length b2] 28)
  have x_3 := x.alloc (.cells #[.slice B1 Y.targets.length b1, .slice B2 Y.data.length b2] 28)
  have xk_3 := blk5 x_3
  have y := Blk.new ((w.alloc (.cells #[.string (bs D.data), .slice A1 D.cache.length a1, .int .i64 D.fuse, .bool D.off, .slice A2 D.bad.length a2] 25)).alloc (.cells #[.slice B1 Y.targets.length b1, .slice B2 Y.data.length b2] 28)) 30 #[.int .i64 g, .int .i64 h]
  simp only [World.size_alloc] at y
  have yk := blk2 y
  have hB_4 := hB_2.alloc hB_2.size (.cells #[.int .i64 g, .int .i64 h] 30)
  have x_5 := x_3.alloc (.cells #[.int .i64 g, .int .i64 h] 30)
  have xk_5 := blk5 x_5
  have z_6 := z.alloc (.cells #[.int .i64 g, .int .i64 h] 30)
  have zk_6 := blk2 z_6
  have v := Blk.new (((w.alloc (.cells #[.string (bs D.data), .slice A1 D.cache.length a1, .int .i64 D.fuse, .bool D.off, .slice A2 D.bad.length a2] 25)).alloc (.cells #[.slice B1 Y.targets.length b1, .slice B2 Y.data.length b2] 28)).alloc (.cells #[.int .i64 g, .int .i64 h] 30)) 32 #[.int .i64 K, .int .i64 A]
  simp only [World.size_alloc] at v
  have vk := blk2 v
  have hB_7 := hB_4.alloc hB_4.size (.cells #[.int .i64 K, .int .i64 A] 32)
  have x_8 := x_5.alloc (.cells #[.int .i64 K, .int .i64 A] 32)
  have xk_8 := blk5 x_8
  have z_9 := z_6.alloc (.cells #[.int .i64 K, .int .i64 A] 32)
  have zk_9 := blk2 z_9
  have y_10 := y.alloc (.cells #[.int .i64 K, .int .i64 A] 32)
  have yk_10 := blk2 y_10
  go_enter Tryz.func3, Tryz.ntmps3
  go_wp2_with fail
  go_at_call 13
  refine ((hG _ hB_7)).mono ?_
  rintro e w1 ⟨rfl, hb1⟩
  replace hB := bt hB_7 hb1
  replace x := x_8.below hb1 x_8.lt
  replace xk := blk5 x
  replace z := z_9.below hb1 z_9.lt
  replace zk := blk2 z
  replace y := y_10.below hb1 y_10.lt
  replace yk := blk2 y
  replace v := v.below hb1 v.lt
  replace vk := blk2 v
  clear hB_1 hB_2 xk_3 x_3 hB_4 xk_5 x_5 zk_6 z_6 hB_7 xk_8 x_8 zk_9 z_9 yk_10 y_10
  go_wp2_with fail
  go_at_call 15
  refine ((h1 _ hB)).mono ?_
  rintro e w2 ⟨rfl, hb2⟩
  replace hB := bt hB hb2
  replace x := x.below hb2 x.lt
  replace xk := blk5 x
  replace z := z.below hb2 z.lt
  replace zk := blk2 z
  replace y := y.below hb2 y.lt
  replace yk := blk2 y
  replace v := v.below hb2 v.lt
  replace vk := blk2 v
  have r := Blk.new w2 37 #[.int .i64 one, .int .u32 n]
  have rk := blk2 r
  have hB_11 := hB.alloc hB.size (.cells #[.int .i64 one, .int .u32 n] 37)
  have x_12 := x.alloc (.cells #[.int .i64 one, .int .u32 n] 37)
  have xk_12 := blk5 x_12
  have z_13 := z.alloc (.cells #[.int .i64 one, .int .u32 n] 37)
  have zk_13 := blk2 z_13
  have y_14 := y.alloc (.cells #[.int .i64 one, .int .u32 n] 37)
  have yk_14 := blk2 y_14
  have v_15 := v.alloc (.cells #[.int .i64 one, .int .u32 n] 37)
  have vk_15 := blk2 v_15
  go_wp2_with fail
  go_at_call 16
  refine ((h2 _ hB_11)).mono ?_
  rintro e w3 ⟨⟨v1, rfl, own1⟩, hb3⟩
  replace hB := bt hB_11 hb3
  replace x := x_12.below hb3 x_12.lt
  replace xk := blk5 x
  replace z := z_13.below hb3 z_13.lt
  replace zk := blk2 z
  replace y := y_14.below hb3 y_14.lt
  replace yk := blk2 y
  replace v := v_15.below hb3 v_15.lt
  replace vk := blk2 v
  replace r := r.below hb3 r.lt
  replace rk := blk2 r
  clear hB_11 xk_12 x_12 zk_13 z_13 yk_14 y_14 vk_15 v_15
  obtain ⟨C1, c1, rfl, _⟩ := own_slice own1
  have cc1 := Cells.of_own own1
  go_wp2_with fail
  go_at_call 17
  refine ((h3 _ hB)).mono ?_
  rintro e w4 ⟨⟨pc, qc, rfl, ic, oc⟩, hb4⟩
  replace hB := bt hB hb4
  replace x := x.below hb4 x.lt
  replace xk := blk5 x
  replace z := z.below hb4 z.lt
  replace zk := blk2 z
  replace y := y.below hb4 y.lt
  replace yk := blk2 y
  replace v := v.below hb4 v.lt
  replace vk := blk2 v
  replace r := r.below hb4 r.lt
  replace rk := blk2 r
  replace cc1 := cc1.below hb4
  have bic := Blk.new w4 28 #[.slice pc.a Y.targets.length pc.c, .slice qc.a Y.data.length qc.c]
  have bick := blk2 bic
  have hB_16 := hB.alloc hB.size (.cells #[.slice pc.a Y.targets.length pc.c, .slice qc.a Y.data.length qc.c] 28)
  have x_17 := x.alloc (.cells #[.slice pc.a Y.targets.length pc.c, .slice qc.a Y.data.length qc.c] 28)
  have xk_17 := blk5 x_17
  have z_18 := z.alloc (.cells #[.slice pc.a Y.targets.length pc.c, .slice qc.a Y.data.length qc.c] 28)
  have zk_18 := blk2 z_18
  have y_19 := y.alloc (.cells #[.slice pc.a Y.targets.length pc.c, .slice qc.a Y.data.length qc.c] 28)
  have yk_19 := blk2 y_19
  have v_20 := v.alloc (.cells #[.slice pc.a Y.targets.length pc.c, .slice qc.a Y.data.length qc.c] 28)
  have vk_20 := blk2 v_20
  have r_21 := r.alloc (.cells #[.slice pc.a Y.targets.length pc.c, .slice qc.a Y.data.length qc.c] 28)
  have rk_21 := blk2 r_21
  have cc1_22 := cc1.below ((Below.refl _ _).alloc (Nat.le_refl _) (.cells #[.slice pc.a Y.targets.length pc.c, .slice qc.a Y.data.length qc.c] 28))
  have ic_23 := ic.below ((Below.refl _ _).alloc (Nat.le_refl _) (.cells #[.slice pc.a Y.targets.length pc.c, .slice qc.a Y.data.length qc.c] 28))
  clear own1
  go_wp2_with fail
  go_at_call 19
  refine ((hs _ hB_16 pc qc ic_23)).mono ?_
  rintro e w5 ⟨rfl, hb5⟩
  replace hB := bt hB_16 hb5
  replace x := x_17.below hb5 x_17.lt
  replace xk := blk5 x
  replace z := z_18.below hb5 z_18.lt
  replace zk := blk2 z
  replace y := y_19.below hb5 y_19.lt
  replace yk := blk2 y
  replace v := v_20.below hb5 v_20.lt
  replace vk := blk2 v
  replace r := r_21.below hb5 r_21.lt
  replace rk := blk2 r
  replace cc1 := cc1_22.below hb5
  replace ic := ic_23.below hb5
  replace bic := bic.below hb5 bic.lt
  replace bick := blk2 bic
  clear hB_16 xk_17 x_17 zk_18 z_18 yk_19 y_19 vk_20 v_20 rk_21 r_21 cc1_22 ic_23
  go_wp2_with fail
  go_at_call 18
  refine ((h4 _ pc qc ic)).mono ?_
  rintro e w6 ⟨rfl, hb6⟩
  replace hB := bt hB hb6
  replace x := x.below hb6 x.lt
  replace xk := blk5 x
  replace z := z.below hb6 z.lt
  replace zk := blk2 z
  replace y := y.below hb6 y.lt
  replace yk := blk2 y
  replace v := v.below hb6 v.lt
  replace vk := blk2 v
  replace r := r.below hb6 r.lt
  replace rk := blk2 r
  replace cc1 := cc1.below hb6
  replace ic := ic.below hb6
  replace bic := bic.below hb6 bic.lt
  replace bick := blk2 bic
  go_wp2_with fail
  go_at_call 14
  refine ((awake12 _)).mono ?_
  rintro e w11 ⟨rfl, hb11⟩
  replace hB := bt hB hb11
  replace x := x.below hb11 x.lt
  replace xk := blk5 x
  replace z := z.below hb11 z.lt
  replace zk := blk2 z
  replace y := y.below hb11 y.lt
  replace yk := blk2 y
  replace v := v.below hb11 v.lt
  replace vk := blk2 v
  replace r := r.below hb11 r.lt
  replace rk := blk2 r
  replace cc1 := cc1.below hb11
  replace ic := ic.below hb11
  replace bic := bic.below hb11 bic.lt
  replace bick := blk2 bic
  go_wp2_with fail
  go_ret
  exact ⟨rfl, hB⟩

set_option maxRecDepth 100000 in
set_option maxHeartbeats 2000000 in
theorem walk_dark (D : Dk) (L : Pn) (p q p' q' : Pl) (g : Int) (h : Nat) (hh : h ≤ 256) (hg64 : g ≤ 64) (u K A o : Int) (hu : -9223372036854775808 ≤ u ∧ u ≤ 9223372036854775807) (w : World) (h0 : IsDk0 w D p q) (hbl : D.bad.length ≤ 17592186044416) (hL : IsPn w L p' q') (hgd : good D L = true) (hgo : geomOk g h = true) (one n : Nat) (U : List (Int × Int)) (Y : Pn) (hr : Pn.rtGet D L = ((one, n), 0)) (hU : Pn.tabAll D L one = (U, 0)) (hY : Pn.ptPoint D L g h u K A = (Y, 0)) (hc : Pn.countedB D L one o = false) :
    Calls Tryz.prog 3 #[dval D p q, pval L p' q', gval g h, .int .i64 u, eval2 K A, .int .i64 o] w fun e w' => e = .returned (.bool true) ∧ Below w.heap.size w w' := by
  obtain ⟨g1, g2, g3, g4⟩ := good_iff.1 hgd
  have hD := h0.full (by omega) hbl (by omega)
  have hG := fun (W : World) (hb : Below w.heap.size w W) => good12 D L p q p' q' g h W (h0.below hb) (hL.below hb) hbl
  rw [hgd, hgo] at hG
  have hdl := (Dk.fit_parts g3).2.2.1
  have h1 := fun (W : World) (hb : Below w.heap.size w W) => r10_get D L p q p' q' W (hD.below hb) (hL.below hb) g3 g4
  rw [hr] at h1
  have h2 := fun (W : World) (hb : Below w.heap.size w W) => t11_all D L p q p' q' W (hD.below hb) (hL.below hb) g3 g4 one
  rw [hU] at h2
  have h3 := fun (W : World) (hb : Below w.heap.size w W) => p_point D L p q p' q' W (hD.below hb) (hL.below hb) g3 g4 g h hh hg64 u K A hu
  have hYf := Pn.ptPoint_fit (D := D) (L := L) g3 g4 g h u K A
  rw [hY] at h3 hYf
  have h4 := fun (W : World) (p1 q1 : Pl) (h : IsPn W Y p1 q1) => r5_fit Y p1 q1 W h
  rw [Pn.fit_iff.2 hYf] at h4
  simp only at h1 h2 h3
  have h5 := fun (W : World) (hb : Below w.heap.size w W) => counted12 D L p q p' q' W (hD.below hb) (hL.below hb) g3 g4 one o
  rw [hc] at h5
  clear h0 hL hgd hgo hD g1 g2 g3 g4 hdl hYf hr hU hY hu hc
  obtain ⟨A1, a1⟩ := p
  obtain ⟨A2, a2⟩ := q
  obtain ⟨B1, b1⟩ := p'
  obtain ⟨B2, b2⟩ := q'
  have hB := Below.refl w.heap.size w
  have x := Blk.new w 25 #[.string (bs D.data), .slice A1 D.cache.length a1, .int .i64 D.fuse, .bool D.off, .slice A2 D.bad.length a2]
  have xk := blk5 x
  have hB_1 := hB.alloc hB.size (.cells #[.string (bs D.data), .slice A1 D.cache.length a1, .int .i64 D.fuse, .bool D.off, .slice A2 D.bad.length a2] 25)
  have z := Blk.new (w.alloc (.cells #[.string (bs D.data), .slice A1 D.cache.length a1, .int .i64 D.fuse, .bool D.off, .slice A2 D.bad.length a2] 25)) 28 #[.slice B1 L.targets.length b1, .slice B2 L.data.length b2]
  simp only [World.size_alloc] at z
  have zk := blk2 z
  have hB_2 := hB_1.alloc hB_1.size (.cells #[.slice B1 L.targets.length b1, .slice B2 L.data.length b2] 28)
  have x_3 := x.alloc (.cells #[.slice B1 L.targets.length b1, .slice B2 L.data.length b2] 28)
  have xk_3 := blk5 x_3
  have y := Blk.new ((w.alloc (.cells #[.string (bs D.data), .slice A1 D.cache.length a1, .int .i64 D.fuse, .bool D.off, .slice A2 D.bad.length a2] 25)).alloc (.cells #[.slice B1 L.targets.length b1, .slice B2 L.data.length b2] 28)) 30 #[.int .i64 g, .int .i64 h]
  simp only [World.size_alloc] at y
  have yk := blk2 y
  have hB_4 := hB_2.alloc hB_2.size (.cells #[.int .i64 g, .int .i64 h] 30)
  have x_5 := x_3.alloc (.cells #[.int .i64 g, .int .i64 h] 30)
  have xk_5 := blk5 x_5
  have z_6 := z.alloc (.cells #[.int .i64 g, .int .i64 h] 30)
  have zk_6 := blk2 z_6
  have v := Blk.new (((w.alloc (.cells #[.string (bs D.data), .slice A1 D.cache.length a1, .int .i64 D.fuse, .bool D.off, .slice A2 D.bad.length a2] 25)).alloc (.cells #[.slice B1 L.targets.length b1, .slice B2 L.data.length b2] 28)).alloc (.cells #[.int .i64 g, .int .i64 h] 30)) 32 #[.int .i64 K, .int .i64 A]
  simp only [World.size_alloc] at v
  have vk := blk2 v
  have hB_7 := hB_4.alloc hB_4.size (.cells #[.int .i64 K, .int .i64 A] 32)
  have x_8 := x_5.alloc (.cells #[.int .i64 K, .int .i64 A] 32)
  have xk_8 := blk5 x_8
  have z_9 := z_6.alloc (.cells #[.int .i64 K, .int .i64 A] 32)
  have zk_9 := blk2 z_9
  have y_10 := y.alloc (.cells #[.int .i64 K, .int .i64 A] 32)
  have yk_10 := blk2 y_10
  go_enter Tryz.func3, Tryz.ntmps3
  go_wp2_with fail
  go_at_call 13
  refine ((hG _ hB_7)).mono ?_
  rintro e w1 ⟨rfl, hb1⟩
  replace hB := bt hB_7 hb1
  replace x := x_8.below hb1 x_8.lt
  replace xk := blk5 x
  replace z := z_9.below hb1 z_9.lt
  replace zk := blk2 z
  replace y := y_10.below hb1 y_10.lt
  replace yk := blk2 y
  replace v := v.below hb1 v.lt
  replace vk := blk2 v
  clear hB_1 hB_2 xk_3 x_3 hB_4 xk_5 x_5 zk_6 z_6 hB_7 xk_8 x_8 zk_9 z_9 yk_10 y_10
  go_wp2_with fail
  go_at_call 15
  refine ((h1 _ hB)).mono ?_
  rintro e w2 ⟨rfl, hb2⟩
  replace hB := bt hB hb2
  replace x := x.below hb2 x.lt
  replace xk := blk5 x
  replace z := z.below hb2 z.lt
  replace zk := blk2 z
  replace y := y.below hb2 y.lt
  replace yk := blk2 y
  replace v := v.below hb2 v.lt
  replace vk := blk2 v
  have r := Blk.new w2 37 #[.int .i64 one, .int .u32 n]
  have rk := blk2 r
  have hB_11 := hB.alloc hB.size (.cells #[.int .i64 one, .int .u32 n] 37)
  have x_12 := x.alloc (.cells #[.int .i64 one, .int .u32 n] 37)
  have xk_12 := blk5 x_12
  have z_13 := z.alloc (.cells #[.int .i64 one, .int .u32 n] 37)
  have zk_13 := blk2 z_13
  have y_14 := y.alloc (.cells #[.int .i64 one, .int .u32 n] 37)
  have yk_14 := blk2 y_14
  have v_15 := v.alloc (.cells #[.int .i64 one, .int .u32 n] 37)
  have vk_15 := blk2 v_15
  go_wp2_with fail
  go_at_call 16
  refine ((h2 _ hB_11)).mono ?_
  rintro e w3 ⟨⟨v1, rfl, own1⟩, hb3⟩
  replace hB := bt hB_11 hb3
  replace x := x_12.below hb3 x_12.lt
  replace xk := blk5 x
  replace z := z_13.below hb3 z_13.lt
  replace zk := blk2 z
  replace y := y_14.below hb3 y_14.lt
  replace yk := blk2 y
  replace v := v_15.below hb3 v_15.lt
  replace vk := blk2 v
  replace r := r.below hb3 r.lt
  replace rk := blk2 r
  clear hB_11 xk_12 x_12 zk_13 z_13 yk_14 y_14 vk_15 v_15
  obtain ⟨C1, c1, rfl, _⟩ := own_slice own1
  have cc1 := Cells.of_own own1
  go_wp2_with fail
  go_at_call 17
  refine ((h3 _ hB)).mono ?_
  rintro e w4 ⟨⟨pc, qc, rfl, ic, oc⟩, hb4⟩
  replace hB := bt hB hb4
  replace x := x.below hb4 x.lt
  replace xk := blk5 x
  replace z := z.below hb4 z.lt
  replace zk := blk2 z
  replace y := y.below hb4 y.lt
  replace yk := blk2 y
  replace v := v.below hb4 v.lt
  replace vk := blk2 v
  replace r := r.below hb4 r.lt
  replace rk := blk2 r
  replace cc1 := cc1.below hb4
  have bic := Blk.new w4 28 #[.slice pc.a Y.targets.length pc.c, .slice qc.a Y.data.length qc.c]
  have bick := blk2 bic
  have hB_16 := hB.alloc hB.size (.cells #[.slice pc.a Y.targets.length pc.c, .slice qc.a Y.data.length qc.c] 28)
  have x_17 := x.alloc (.cells #[.slice pc.a Y.targets.length pc.c, .slice qc.a Y.data.length qc.c] 28)
  have xk_17 := blk5 x_17
  have z_18 := z.alloc (.cells #[.slice pc.a Y.targets.length pc.c, .slice qc.a Y.data.length qc.c] 28)
  have zk_18 := blk2 z_18
  have y_19 := y.alloc (.cells #[.slice pc.a Y.targets.length pc.c, .slice qc.a Y.data.length qc.c] 28)
  have yk_19 := blk2 y_19
  have v_20 := v.alloc (.cells #[.slice pc.a Y.targets.length pc.c, .slice qc.a Y.data.length qc.c] 28)
  have vk_20 := blk2 v_20
  have r_21 := r.alloc (.cells #[.slice pc.a Y.targets.length pc.c, .slice qc.a Y.data.length qc.c] 28)
  have rk_21 := blk2 r_21
  have cc1_22 := cc1.below ((Below.refl _ _).alloc (Nat.le_refl _) (.cells #[.slice pc.a Y.targets.length pc.c, .slice qc.a Y.data.length qc.c] 28))
  have ic_23 := ic.below ((Below.refl _ _).alloc (Nat.le_refl _) (.cells #[.slice pc.a Y.targets.length pc.c, .slice qc.a Y.data.length qc.c] 28))
  clear own1
  go_wp2_with fail
  go_at_call 18
  refine ((h4 _ pc qc ic_23)).mono ?_
  rintro e w6 ⟨rfl, hb6⟩
  replace hB := bt hB_16 hb6
  replace x := x_17.below hb6 x_17.lt
  replace xk := blk5 x
  replace z := z_18.below hb6 z_18.lt
  replace zk := blk2 z
  replace y := y_19.below hb6 y_19.lt
  replace yk := blk2 y
  replace v := v_20.below hb6 v_20.lt
  replace vk := blk2 v
  replace r := r_21.below hb6 r_21.lt
  replace rk := blk2 r
  replace cc1 := cc1_22.below hb6
  replace ic := ic_23.below hb6
  replace bic := bic.below hb6 bic.lt
  replace bick := blk2 bic
  clear hB_16 xk_17 x_17 zk_18 z_18 yk_19 y_19 vk_20 v_20 rk_21 r_21 cc1_22 ic_23
  go_wp2_with fail
  go_at_call 20
  refine ((h5 _ hB)).mono ?_
  rintro e w7 ⟨rfl, hb7⟩
  replace hB := bt hB hb7
  replace x := x.below hb7 x.lt
  replace xk := blk5 x
  replace z := z.below hb7 z.lt
  replace zk := blk2 z
  replace y := y.below hb7 y.lt
  replace yk := blk2 y
  replace v := v.below hb7 v.lt
  replace vk := blk2 v
  replace r := r.below hb7 r.lt
  replace rk := blk2 r
  replace cc1 := cc1.below hb7
  replace ic := ic.below hb7
  replace bic := bic.below hb7 bic.lt
  replace bick := blk2 bic
  go_wp2_with fail
  go_at_call 14
  refine ((awake12 _)).mono ?_
  rintro e w11 ⟨rfl, hb11⟩
  replace hB := bt hB hb11
  replace x := x.below hb11 x.lt
  replace xk := blk5 x
  replace z := z.below hb11 z.lt
  replace zk := blk2 z
  replace y := y.below hb11 y.lt
  replace yk := blk2 y
  replace v := v.below hb11 v.lt
  replace vk := blk2 v
  replace r := r.below hb11 r.lt
  replace rk := blk2 r
  replace cc1 := cc1.below hb11
  replace ic := ic.below hb11
  replace bic := bic.below hb11 bic.lt
  replace bick := blk2 bic
  go_wp2_with fail
  go_ret
  exact ⟨rfl, hB⟩

set_option maxRecDepth 100000 in
set_option maxHeartbeats 2000000 in
theorem walk_ok (D : Dk) (L : Pn) (p q p' q' : Pl) (g : Int) (h : Nat) (hh : h ≤ 256) (hg64 : g ≤ 64) (u K A o : Int) (hu : -9223372036854775808 ≤ u ∧ u ≤ 9223372036854775807) (w : World) (h0 : IsDk0 w D p q) (hbl : D.bad.length ≤ 17592186044416) (hL : IsPn w L p' q') (hgd : good D L = true) (hgo : geomOk g h = true) (one n : Nat) (U : List (Int × Int)) (Y : Pn) (hr : Pn.rtGet D L = ((one, n), 0)) (hU : Pn.tabAll D L one = (U, 0)) (hY : Pn.ptPoint D L g h u K A = (Y, 0)) (hc : Pn.countedB D L one o = true) (hUl : U.length = 64) (k0 : Nat) (hk0 : u = k0) (hk1 : k0 < 64)
    (Z : List (Int × Int)) (hZ : Pn.tabAll D Y one = (Z, 0)) (hZl : Z.length = 64) (hZk : Z.getD k0 (0, 0) = (K, A)) (hZo : ∀ k : Nat, k < 64 → k ≠ k0 → Z.getD k (0, 0) = U.getD k (0, 0)) (T : List (Int × Int)) (hT : Pn.tabAll D L o = (T, 0)) (hT' : Pn.tabAll D Y o = (T, 0)) (hTl : T.length = 64) :
    Calls Tryz.prog 3 #[dval D p q, pval L p' q', gval g h, .int .i64 u, eval2 K A, .int .i64 o] w fun e w' => e = .returned (.bool true) ∧ Below w.heap.size w w' := by
  obtain ⟨g1, g2, g3, g4⟩ := good_iff.1 hgd
  have hD := h0.full (by omega) hbl (by omega)
  have hG := fun (W : World) (hb : Below w.heap.size w W) => good12 D L p q p' q' g h W (h0.below hb) (hL.below hb) hbl
  rw [hgd, hgo] at hG
  have hdl := (Dk.fit_parts g3).2.2.1
  have h1 := fun (W : World) (hb : Below w.heap.size w W) => r10_get D L p q p' q' W (hD.below hb) (hL.below hb) g3 g4
  rw [hr] at h1
  have h2 := fun (W : World) (hb : Below w.heap.size w W) => t11_all D L p q p' q' W (hD.below hb) (hL.below hb) g3 g4 one
  rw [hU] at h2
  have h3 := fun (W : World) (hb : Below w.heap.size w W) => p_point D L p q p' q' W (hD.below hb) (hL.below hb) g3 g4 g h hh hg64 u K A hu
  have hYf := Pn.ptPoint_fit (D := D) (L := L) g3 g4 g h u K A
  rw [hY] at h3 hYf
  have h4 := fun (W : World) (p1 q1 : Pl) (h : IsPn W Y p1 q1) => r5_fit Y p1 q1 W h
  rw [Pn.fit_iff.2 hYf] at h4
  simp only at h1 h2 h3
  have h5 := fun (W : World) (hb : Below w.heap.size w W) => counted12 D L p q p' q' W (hD.below hb) (hL.below hb) g3 g4 one o
  rw [hc] at h5
  have h6 := fun (W : World) (hb : Below w.heap.size w W) (p1 q1 : Pl) (h : IsPn W Y p1 q1) => t11_all D Y p q p1 q1 W (hD.below hb) h g3 hYf one
  rw [hZ] at h6
  have h7 := fun (W : World) (hb : Below w.heap.size w W) => t11_all D L p q p' q' W (hD.below hb) (hL.below hb) g3 g4 o
  rw [hT] at h7
  have h8 := fun (W : World) (hb : Below w.heap.size w W) (p1 q1 : Pl) (h : IsPn W Y p1 q1) => t11_all D Y p q p1 q1 W (hD.below hb) h g3 hYf o
  rw [hT'] at h8
  have h9 := fun (W : World) (A B : Option Addr) (c d : Nat) (hA : Cells W A (entCells T)) (hB : Cells W B (entCells T)) => t11_row T A B c d W hA hB (by omega)
  simp only at h6 h7 h8
  subst hk0
  have Hk := hid (And.intro hZk hZo)
  have HU := hid hUl
  have HZ := hid hZl
  clear h0 hL hgd hgo hD g1 g2 g3 g4 hdl hYf hr hU hY hu hc hZ hT hT' hTl hZk hZo hUl hZl
  obtain ⟨A1, a1⟩ := p
  obtain ⟨A2, a2⟩ := q
  obtain ⟨B1, b1⟩ := p'
  obtain ⟨B2, b2⟩ := q'
  have hB := Below.refl w.heap.size w
  have x := Blk.new w 25 #[.string (bs D.data), .slice A1 D.cache.length a1, .int .i64 D.fuse, .bool D.off, .slice A2 D.bad.length a2]
  have xk := blk5 x
  have hB_1 := hB.alloc hB.size (.cells #[.string (bs D.data), .slice A1 D.cache.length a1, .int .i64 D.fuse, .bool D.off, .slice A2 D.bad.length a2] 25)
  have z := Blk.new (w.alloc (.cells #[.string (bs D.data), .slice A1 D.cache.length a1, .int .i64 D.fuse, .bool D.off, .slice A2 D.bad.length a2] 25)) 28 #[.slice B1 L.targets.length b1, .slice B2 L.data.length b2]
  simp only [World.size_alloc] at z
  have zk := blk2 z
  have hB_2 := hB_1.alloc hB_1.size (.cells #[.slice B1 L.targets.length b1, .slice B2 L.data.length b2] 28)
  have x_3 := x.alloc (.cells #[.slice B1 L.targets.length b1, .slice B2 L.data.length b2] 28)
  have xk_3 := blk5 x_3
  have y := Blk.new ((w.alloc (.cells #[.string (bs D.data), .slice A1 D.cache.length a1, .int .i64 D.fuse, .bool D.off, .slice A2 D.bad.length a2] 25)).alloc (.cells #[.slice B1 L.targets.length b1, .slice B2 L.data.length b2] 28)) 30 #[.int .i64 g, .int .i64 h]
  simp only [World.size_alloc] at y
  have yk := blk2 y
  have hB_4 := hB_2.alloc hB_2.size (.cells #[.int .i64 g, .int .i64 h] 30)
  have x_5 := x_3.alloc (.cells #[.int .i64 g, .int .i64 h] 30)
  have xk_5 := blk5 x_5
  have z_6 := z.alloc (.cells #[.int .i64 g, .int .i64 h] 30)
  have zk_6 := blk2 z_6
  have v := Blk.new (((w.alloc (.cells #[.string (bs D.data), .slice A1 D.cache.length a1, .int .i64 D.fuse, .bool D.off, .slice A2 D.bad.length a2] 25)).alloc (.cells #[.slice B1 L.targets.length b1, .slice B2 L.data.length b2] 28)).alloc (.cells #[.int .i64 g, .int .i64 h] 30)) 32 #[.int .i64 K, .int .i64 A]
  simp only [World.size_alloc] at v
  have vk := blk2 v
  have hB_7 := hB_4.alloc hB_4.size (.cells #[.int .i64 K, .int .i64 A] 32)
  have x_8 := x_5.alloc (.cells #[.int .i64 K, .int .i64 A] 32)
  have xk_8 := blk5 x_8
  have z_9 := z_6.alloc (.cells #[.int .i64 K, .int .i64 A] 32)
  have zk_9 := blk2 z_9
  have y_10 := y.alloc (.cells #[.int .i64 K, .int .i64 A] 32)
  have yk_10 := blk2 y_10
  go_enter Tryz.func3, Tryz.ntmps3
  go_wp2_with fail
  go_at_call 13
  refine ((hG _ hB_7)).mono ?_
  rintro e w1 ⟨rfl, hb1⟩
  replace hB := bt hB_7 hb1
  replace x := x_8.below hb1 x_8.lt
  replace xk := blk5 x
  replace z := z_9.below hb1 z_9.lt
  replace zk := blk2 z
  replace y := y_10.below hb1 y_10.lt
  replace yk := blk2 y
  replace v := v.below hb1 v.lt
  replace vk := blk2 v
  clear hB_1 hB_2 xk_3 x_3 hB_4 xk_5 x_5 zk_6 z_6 hB_7 xk_8 x_8 zk_9 z_9 yk_10 y_10
  go_wp2_with fail
  go_at_call 15
  refine ((h1 _ hB)).mono ?_
  rintro e w2 ⟨rfl, hb2⟩
  replace hB := bt hB hb2
  replace x := x.below hb2 x.lt
  replace xk := blk5 x
  replace z := z.below hb2 z.lt
  replace zk := blk2 z
  replace y := y.below hb2 y.lt
  replace yk := blk2 y
  replace v := v.below hb2 v.lt
  replace vk := blk2 v
  have r := Blk.new w2 37 #[.int .i64 one, .int .u32 n]
  have rk := blk2 r
  have hB_11 := hB.alloc hB.size (.cells #[.int .i64 one, .int .u32 n] 37)
  have x_12 := x.alloc (.cells #[.int .i64 one, .int .u32 n] 37)
  have xk_12 := blk5 x_12
  have z_13 := z.alloc (.cells #[.int .i64 one, .int .u32 n] 37)
  have zk_13 := blk2 z_13
  have y_14 := y.alloc (.cells #[.int .i64 one, .int .u32 n] 37)
  have yk_14 := blk2 y_14
  have v_15 := v.alloc (.cells #[.int .i64 one, .int .u32 n] 37)
  have vk_15 := blk2 v_15
  go_wp2_with fail
  go_at_call 16
  refine ((h2 _ hB_11)).mono ?_
  rintro e w3 ⟨⟨v1, rfl, own1⟩, hb3⟩
  replace hB := bt hB_11 hb3
  replace x := x_12.below hb3 x_12.lt
  replace xk := blk5 x
  replace z := z_13.below hb3 z_13.lt
  replace zk := blk2 z
  replace y := y_14.below hb3 y_14.lt
  replace yk := blk2 y
  replace v := v_15.below hb3 v_15.lt
  replace vk := blk2 v
  replace r := r.below hb3 r.lt
  replace rk := blk2 r
  clear hB_11 xk_12 x_12 zk_13 z_13 yk_14 y_14 vk_15 v_15
  obtain ⟨C1, c1, rfl, _⟩ := own_slice own1
  have cc1 := Cells.of_own own1
  go_wp2_with fail
  go_at_call 17
  refine ((h3 _ hB)).mono ?_
  rintro e w4 ⟨⟨pc, qc, rfl, ic, oc⟩, hb4⟩
  replace hB := bt hB hb4
  replace x := x.below hb4 x.lt
  replace xk := blk5 x
  replace z := z.below hb4 z.lt
  replace zk := blk2 z
  replace y := y.below hb4 y.lt
  replace yk := blk2 y
  replace v := v.below hb4 v.lt
  replace vk := blk2 v
  replace r := r.below hb4 r.lt
  replace rk := blk2 r
  replace cc1 := cc1.below hb4
  have bic := Blk.new w4 28 #[.slice pc.a Y.targets.length pc.c, .slice qc.a Y.data.length qc.c]
  have bick := blk2 bic
  have hB_16 := hB.alloc hB.size (.cells #[.slice pc.a Y.targets.length pc.c, .slice qc.a Y.data.length qc.c] 28)
  have x_17 := x.alloc (.cells #[.slice pc.a Y.targets.length pc.c, .slice qc.a Y.data.length qc.c] 28)
  have xk_17 := blk5 x_17
  have z_18 := z.alloc (.cells #[.slice pc.a Y.targets.length pc.c, .slice qc.a Y.data.length qc.c] 28)
  have zk_18 := blk2 z_18
  have y_19 := y.alloc (.cells #[.slice pc.a Y.targets.length pc.c, .slice qc.a Y.data.length qc.c] 28)
  have yk_19 := blk2 y_19
  have v_20 := v.alloc (.cells #[.slice pc.a Y.targets.length pc.c, .slice qc.a Y.data.length qc.c] 28)
  have vk_20 := blk2 v_20
  have r_21 := r.alloc (.cells #[.slice pc.a Y.targets.length pc.c, .slice qc.a Y.data.length qc.c] 28)
  have rk_21 := blk2 r_21
  have cc1_22 := cc1.below ((Below.refl _ _).alloc (Nat.le_refl _) (.cells #[.slice pc.a Y.targets.length pc.c, .slice qc.a Y.data.length qc.c] 28))
  have ic_23 := ic.below ((Below.refl _ _).alloc (Nat.le_refl _) (.cells #[.slice pc.a Y.targets.length pc.c, .slice qc.a Y.data.length qc.c] 28))
  clear own1
  go_wp2_with fail
  go_at_call 18
  refine ((h4 _ pc qc ic_23)).mono ?_
  rintro e w6 ⟨rfl, hb6⟩
  replace hB := bt hB_16 hb6
  replace x := x_17.below hb6 x_17.lt
  replace xk := blk5 x
  replace z := z_18.below hb6 z_18.lt
  replace zk := blk2 z
  replace y := y_19.below hb6 y_19.lt
  replace yk := blk2 y
  replace v := v_20.below hb6 v_20.lt
  replace vk := blk2 v
  replace r := r_21.below hb6 r_21.lt
  replace rk := blk2 r
  replace cc1 := cc1_22.below hb6
  replace ic := ic_23.below hb6
  replace bic := bic.below hb6 bic.lt
  replace bick := blk2 bic
  clear hB_16 xk_17 x_17 zk_18 z_18 yk_19 y_19 vk_20 v_20 rk_21 r_21 cc1_22 ic_23
  go_wp2_with fail
  go_at_call 20
  refine ((h5 _ hB)).mono ?_
  rintro e w7 ⟨rfl, hb7⟩
  replace hB := bt hB hb7
  replace x := x.below hb7 x.lt
  replace xk := blk5 x
  replace z := z.below hb7 z.lt
  replace zk := blk2 z
  replace y := y.below hb7 y.lt
  replace yk := blk2 y
  replace v := v.below hb7 v.lt
  replace vk := blk2 v
  replace r := r.below hb7 r.lt
  replace rk := blk2 r
  replace cc1 := cc1.below hb7
  replace ic := ic.below hb7
  replace bic := bic.below hb7 bic.lt
  replace bick := blk2 bic
  go_wp2_with fail
  go_at_call 16
  refine ((h6 _ hB pc qc ic)).mono ?_
  rintro e w8 ⟨⟨v2, rfl, own2⟩, hb8⟩
  replace hB := bt hB hb8
  replace x := x.below hb8 x.lt
  replace xk := blk5 x
  replace z := z.below hb8 z.lt
  replace zk := blk2 z
  replace y := y.below hb8 y.lt
  replace yk := blk2 y
  replace v := v.below hb8 v.lt
  replace vk := blk2 v
  replace r := r.below hb8 r.lt
  replace rk := blk2 r
  replace cc1 := cc1.below hb8
  replace ic := ic.below hb8
  replace bic := bic.below hb8 bic.lt
  replace bick := blk2 bic
  obtain ⟨C2, c2, rfl, _⟩ := own_slice own2
  have cc2 := Cells.of_own own2
  clear own2
  have hbx := hB
  have xx := x
  have zz := z
  have vv := v
  have qq := bic
  have ii := ic
  have ca := cc1
  have cb := cc2
  have d1 : decide ((k0 : Int) < 0) = false := by simp
  have d2 : decide ((Z.length : Int) ≤ (k0 : Int)) = false := by rw [HZ.out]; simp; omega
  have d3 : decide (Z.length ≤ k0) = false := by rw [HZ.out]; simp; omega
  go_wp2_with fail
  go_loopw [114] (fun x W => ∃ i : Nat, i ≤ Z.length ∧ x = .int .i64 i ∧ Below w8.heap.size w8 W) (fun x _ => Z.length - (intOf x).toNat)
  case atStart => exact ⟨0, Nat.zero_le _, rfl, Below.refl _ _⟩
  case round =>
    obtain ⟨i, hi, rfl, hw⟩ := hrel
    have v9 := vv.below hw vv.lt
    have v9k := blk2 v9
    by_cases hlt : i < Z.length
    · have hZ := HZ.out
      have hlu : i < U.length := by rw [HU.out]; omega
      obtain ⟨pb, po, hpa, hcell⟩ := (cb.below hw).ent hlt
      subst hpa
      obtain ⟨y0, y1⟩ := hcell i hlt
      obtain ⟨pb', po', hpa', hcell'⟩ := (ca.below hw).ent hlu
      subst hpa'
      obtain ⟨y2, y3⟩ := hcell' i hlu
      have e1 : Z[i] = Z.getD i (0, 0) := by rw [List.getD_eq_getElem?_getD, List.getElem?_eq_getElem hlt]; rfl
      have e2 : U[i] = U.getD i (0, 0) := by rw [List.getD_eq_getElem?_getD, List.getElem?_eq_getElem hlu]; rfl
      rw [e1] at y0 y1
      rw [e2] at y2 y3
      have HZ3 := hid hZ
      have hi64 : i < 64 := by omega
      clear hcell hcell' e1 e2 hZ
      by_cases hk : i = k0
      · subst hk
        rw [Hk.out.1] at y0 y1
        simp only at y0 y1
        go_wp2_with fail
        go_quiet (fail)
        go_wp2_with fail
        go_roundw
        case rel => exact ⟨i + 1, by omega, by go_num, by first | exact hw | exact below_drewN hw _⟩
        case measure => simp [intOf]; omega
      · have hz := Hk.out.2 i hi64 hk
        rw [hz] at y0 y1
        have f1 : ((i : Int) == (k0 : Int)) = false := by rw [beq_eq_false_iff_ne]; omega
        have f2 : ((i : Int) != (k0 : Int)) = true := bne_iff_ne.2 (by omega)
        clear hk hz
        generalize U.getD i (0, 0) = E at y0 y1 y2 y3
        obtain ⟨E1, E2⟩ := E
        simp only at y0 y1 y2 y3
        go_wp2_with fail
        go_quiet (fail)
        go_wp2_with fail
        go_roundw
        case rel => exact ⟨i + 1, by omega, by go_num, by first | exact hw | exact below_drewN hw _⟩
        case measure => simp [intOf]; omega
    · obtain rfl : i = Z.length := by omega
      have x9 := xx.below hw xx.lt
      have z9 := zz.below hw zz.lt
      have q9 := qq.below hw qq.lt
      have i9 := ii.below hw
      have hB := bt hbx hw
      clear hlt hi v9 v9k hbx xx zz vv qq ii ca cb xk zk yk vk rk bick x z y v r bic ic hw cc1 cc2 d1 d2 d3
      have x9k := blk5 x9
      have z9k := blk2 z9
      have q9k := blk2 q9
      go_wp2_with fail
      go_at_call 16
      refine ((h7 _ hB)).mono ?_
      rintro e w12 ⟨⟨v3, rfl, own3⟩, hb12⟩
      replace hB := bt hB hb12
      replace x9 := x9.below hb12 x9.lt
      replace x9k := blk5 x9
      replace z9 := z9.below hb12 z9.lt
      replace z9k := blk2 z9
      replace q9 := q9.below hb12 q9.lt
      replace q9k := blk2 q9
      replace i9 := i9.below hb12
      obtain ⟨C3, c3, rfl, _⟩ := own_slice own3
      have cc3 := Cells.of_own own3
      go_wp2_with fail
      go_at_call 16
      refine ((h8 _ hB pc qc i9)).mono ?_
      rintro e w13 ⟨⟨v4, rfl, own4⟩, hb13⟩
      replace hB := bt hB hb13
      replace x9 := x9.below hb13 x9.lt
      replace x9k := blk5 x9
      replace z9 := z9.below hb13 z9.lt
      replace z9k := blk2 z9
      replace q9 := q9.below hb13 q9.lt
      replace q9k := blk2 q9
      replace i9 := i9.below hb13
      replace cc3 := cc3.below hb13
      obtain ⟨C4, c4, rfl, _⟩ := own_slice own4
      have cc4 := Cells.of_own own4
      go_wp2_with fail
      go_at_call 21
      refine ((h9 _ C3 C4 c3 c4 cc3 cc4)).mono ?_
      rintro e w14 ⟨rfl, hb14⟩
      replace hB := bt hB hb14
      replace x9 := x9.below hb14 x9.lt
      replace x9k := blk5 x9
      replace z9 := z9.below hb14 z9.lt
      replace z9k := blk2 z9
      replace q9 := q9.below hb14 q9.lt
      replace q9k := blk2 q9
      replace i9 := i9.below hb14
      replace cc3 := cc3.below hb14
      replace cc4 := cc4.below hb14
      go_wp2_with fail
      go_at_call 14
      refine ((awake12 _)).mono ?_
      rintro e w15 ⟨rfl, hb15⟩
      replace hB := bt hB hb15
      replace x9 := x9.below hb15 x9.lt
      replace x9k := blk5 x9
      replace z9 := z9.below hb15 z9.lt
      replace z9k := blk2 z9
      replace q9 := q9.below hb15 q9.lt
      replace q9k := blk2 q9
      replace i9 := i9.below hb15
      replace cc3 := cc3.below hb15
      replace cc4 := cc4.below hb15
      go_wp2_with fail
      go_ret
      exact ⟨rfl, hB⟩
theorem walk (w : World) (D : Dk) (p q : Pl) (hD : IsDk0 w D p q ∧ D.cache.length * Tryz.prog.bytesOf 163 ≤ reachBytes ∧ D.bad.length * Tryz.prog.bytesOf 3 ≤ reachBytes) (L : Pn) (p' q' : Pl) (hL : IsPn w L p' q') (g h : Int) (wg : okInt g ∧ okInt h) (u : Int) (wu : (Lit.int .i64 u).wf = true) (K A : Int) (wK : okInt K ∧ okInt A) (o : Int) (wo : (Lit.int .i64 o).wf = true) :
    Calls Tryz.prog 3 #[dval D p q, pval L p' q', gval g h, .int .i64 u, eval2 K A, .int .i64 o] w fun e w' => e = .returned (.bool true) ∧ Below w.heap.size w w' := by
  obtain ⟨hD, c1, b1⟩ := hD
  rw [show Tryz.prog.bytesOf 3 = 8 by kernel_rfl] at b1
  unfold reachBytes at b1
  have hbl : D.bad.length ≤ 17592186044416 := by omega
  cases hg : (good D L && geomOk g h) with
  | false => exact walk_no D L p q p' q' g h u K A o w hD hbl hL hg
  | true =>
    obtain ⟨hgd, hgo⟩ : good D L = true ∧ geomOk g h = true := by simpa using hg
    obtain ⟨_, _, g3, g4⟩ := good_iff.1 hgd
    have hgo' := hgo
    simp only [geomOk, Bool.and_eq_true, decide_eq_true_eq] at hgo'
    obtain ⟨h, rfl⟩ := Int.eq_ofNat_of_zero_le (show 0 ≤ h by omega)
    have hh : h ≤ 256 := by omega
    have hg64 : g ≤ 64 := by omega
    have hu := okInt_of wu
    obtain ⟨one, n, er, hr⟩ : ∃ one n e, Pn.rtGet D L = ((one, n), e) := ⟨_, _, _, rfl⟩
    obtain ⟨U, f, hU⟩ : ∃ U f, Pn.tabAll D L one = (U, f) := ⟨_, _, (Prod.eta _).symm⟩
    obtain ⟨Y, x, hY⟩ : ∃ Y x, Pn.ptPoint D L g h u K A = (Y, x) := ⟨_, _, (Prod.eta _).symm⟩
    have hYL : x ≠ 0 → Y = L := fun hx => by
      have := Pn.ptPoint_not (D := D) (L := L) (g := g) (h := h) (u := u) (K := K) (A := A) (by rw [hY]; exact hx)
      rw [hY] at this
      exact this
    by_cases he : er = 0
    · by_cases hf : f = 0
      · by_cases hx : x = 0
        · subst he hf hx
          cases hc : Pn.countedB D L one o with
          | false => exact walk_dark D L p q p' q' g h hh hg64 u K A o hu w hD hbl hL hgd hgo one n U Y hr hU hY hc
          | true =>
            have hC := Pn.countedB_is hc
            have h1 : ((Pn.rtGet D L).1.1 : Int) = one := by rw [hr]
            obtain ⟨u0, u1, a1, a2⟩ := Pn.ptPoint_tab (b := o) g3 g4 (by omega) hg64 hY (by rw [h1]; exact hC)
            rw [h1] at a1
            obtain ⟨k0, rfl⟩ := Int.eq_ofNat_of_zero_le u0
            have hY1 : (Pn.tabAll D Y one).2 = 0 := allN_all fun i hi => by
              rw [a1 i (by omega) (by omega)]
              split
              · rfl
              · exact ((allN_ok (f := fun n : Nat => Pn.tabFind D L one n) (n := 64) (by show (Pn.tabAll D L one).2 = 0; rw [hU])).2 i hi).1
            have b1 := allN_ok (f := fun n : Nat => Pn.tabFind D Y one n) (n := 64) hY1
            have b2 := allN_ok (f := fun n : Nat => Pn.tabFind D L one n) (n := 64) (by show (Pn.tabAll D L one).2 = 0; rw [hU])
            rw [show allN (fun n : Nat => Pn.tabFind D L one n) 64 = (U, 0) from hU] at b2
            have ht := Pn.tabAll_reached hC.rb
            have hT : Pn.tabAll D Y o = Pn.tabAll D L o := Pn.allN_alike fun i hi => a2 i (by omega) (by omega)
            have b3 := allN_ok (f := fun n : Nat => Pn.tabFind D L o n) (n := 64) ht
            obtain ⟨Z, z0, hZ⟩ : ∃ Z z, Pn.tabAll D Y one = (Z, z) := ⟨_, _, (Prod.eta _).symm⟩
            obtain rfl : z0 = 0 := by rw [hZ] at hY1; exact hY1
            rw [show allN (fun n : Nat => Pn.tabFind D Y one n) 64 = (Z, 0) from hZ] at b1
            obtain ⟨T, t0, hT0⟩ : ∃ T z, Pn.tabAll D L o = (T, z) := ⟨_, _, (Prod.eta _).symm⟩
            obtain rfl : t0 = 0 := by rw [hT0] at ht; exact ht
            rw [show allN (fun n : Nat => Pn.tabFind D L o n) 64 = (T, 0) from hT0] at b3
            refine walk_ok D L p q p' q' g h hh hg64 k0 K A o hu w hD hbl hL hgd hgo one n U Y hr hU hY hc b2.1 k0 rfl (by omega) Z hZ b1.1 ?_ (fun k hk hne => ?_) T hT0 (hT.trans hT0) b3.1
            · have e1 := (b1.2 k0 (by omega)).2
              rw [List.getD_eq_getElem?_getD]
              simp only at e1
              rw [e1, a1 k0 (by omega) (by omega), if_pos rfl]
              rfl
            · have e1 := (b1.2 k hk).2
              have e2 := (b2.2 k hk).2
              rw [List.getD_eq_getElem?_getD, List.getD_eq_getElem?_getD]
              simp only at e1 e2
              rw [e1, e2, a1 k (by omega) (by omega), if_neg (by omega)]
        · exact walk_bade D L p q p' q' g h hh hg64 u K A o hu w hD hbl hL hgd hgo one n U Y er f x hr hU hY he hf hx (hYL hx)
      · by_cases hx : x = 0
        · exact walk_badc D L p q p' q' g h hh hg64 u K A o hu w hD hbl hL hgd hgo one n U Y er f x hr hU hY he hf hx
        · exact walk_badd D L p q p' q' g h hh hg64 u K A o hu w hD hbl hL hgd hgo one n U Y er f x hr hU hY he hf hx (hYL hx)
    · by_cases hx : x = 0
      · exact walk_bada D L p q p' q' g h hh hg64 u K A o hu w hD hbl hL hgd hgo one n U Y er f x hr hU hY he hx
      · exact walk_badb D L p q p' q' g h hh hg64 u K A o hu w hD hbl hL hgd hgo one n U Y er f x hr hU hY he hx (hYL hx)
/-! ### The row -/
theorem own : ownKnob Tryz.prog.godebug = none := by kernel_rfl
set_option maxRecDepth 100000 in
theorem lifted (os : Os) (started : os.Started) (H : Type) (enc : TypeId × Value → H) :
    ReturnsInHanded {} Tryz.checked os 3 .any (Rows.pointTellsSpec.pre6 enc Tryz.prog Tryz.f3 Rows.pointTellsRow.domain false) (Rows.pointTellsSpec.post enc Tryz.prog Tryz.f3 false true false false) := by
  refine returnsInHanded_of_change_sized (C := Tryz.checked) own started (by kernel_rfl) Tryz.func3
    (ChangeSpec.witness6 (enc := enc) (C := Tryz.checked) false ⟨#[], #[.agg #[.string ByteArray.empty, .slice none 0 0, .int .i64 0, .bool false, .slice none 0 0], .agg #[.slice none 0 0, .slice none 0 0], .agg #[.int .i64 0, .int .i64 0], .int .i64 0, .agg #[.int .i64 0, .int .i64 0], .int .i64 0], []⟩ 8 (by kernel_rfl) (by kernel_rfl) (by kernel_rfl) (by kernel_rfl)) ?_
  intro W base args ds gs before hval0 hW hcnd hsz0 _
  have hval : ∀ (j : Nat) t v, Tryz.f3.params[j]? = some t → args[j]? = some v → Value.okWide Tryz.prog W .any base t v := hval0
  have hW' := hW
  obtain ⟨p, q, hA0, hV, rfl, hfz, hnd⟩ := hW
  have hA : DataW.TrodAll enc Tryz.prog W 0 (fun _ => true) true Tryz.f3.params.toList args.toList ds p := hA0
  have hAk := hA
  have hsz : (DataW.weightsEach Tryz.prog (Tryz.f3.params.toList ++ Rows.pointTellsSpec.plain.varTypes Tryz.prog) (ds ++ gs)).all (· ≤ reachBytes) = true := hsz0
  rw [Tryz.params3] at hA hval hsz
  obtain ⟨v0, vs0, d0, ds0, p0, q0, hargs, rfl, rfl, h0, r0⟩ := trodAll_cons hA
  obtain ⟨v1, vs1, d1, ds1, p1, q1, rfl, rfl, rfl, h1, r1⟩ := trodAll_cons r0
  obtain ⟨v2, vs2, d2, ds2, p2, q2, rfl, rfl, rfl, h2, r2⟩ := trodAll_cons r1
  obtain ⟨v3, vs3, d3, ds3, p3, q3, rfl, rfl, rfl, h3, r3⟩ := trodAll_cons r2
  obtain ⟨v4, vs4, d4, ds4, p4, q4, rfl, rfl, rfl, h4, r4⟩ := trodAll_cons r3
  obtain ⟨v5, vs5, d5, ds5, p5, q5, rfl, rfl, rfl, h5, r5⟩ := trodAll_cons r4
  obtain ⟨rfl, rfl, rfl⟩ := trodAll_nil r5
  obtain rfl : args = #[v0, v1, v2, v3, v4, v5] := by cases args; simp_all
  obtain ⟨rfl, rfl⟩ := trodVars_none hV
  obtain ⟨D0, P0, Q0, rfl, w0⟩ := open_dk_sized Tryz.underlying25 (by kernel_rfl) (by kernel_rfl) Tryz.underlying9 Tryz.underlying22 Tryz.underlying3 Tryz.underlying4 Tryz.underlying23 Tryz.underlying163 (by kernel_rfl) (by kernel_rfl) Tryz.underlying3 Tryz.underlying9 Tryz.underlying3 (by kernel_rfl) (hval 0 25 v0 rfl rfl) h0 (weights_each hsz (j := 0) rfl rfl)
  obtain ⟨D1, P1, Q1, rfl, w1⟩ := open_plan Tryz.underlying28 (by kernel_rfl) (by kernel_rfl) Tryz.underlying23 Tryz.underlying26 Tryz.underlying3 (by kernel_rfl) Tryz.underlying9 (by kernel_rfl) (hval 1 28 v1 rfl rfl) h1
  obtain ⟨a2, b2, rfl, w2⟩ := open_pair Tryz.underlying30 (by kernel_rfl) (by kernel_rfl) Tryz.underlying3 Tryz.underlying3 (hval 2 30 v2 rfl rfl) h2
  obtain ⟨a3, rfl, rfl, rfl, w3⟩ := open_int Tryz.underlying3 (hval 3 3 v3 rfl rfl) h3
  obtain ⟨a4, b4, rfl, w4⟩ := open_pair Tryz.underlying32 (by kernel_rfl) (by kernel_rfl) Tryz.underlying3 Tryz.underlying3 (hval 4 32 v4 rfl rfl) h4
  obtain ⟨a5, rfl, rfl, rfl, w5⟩ := open_int Tryz.underlying3 (hval 5 3 v5 rfl rfl) h5
  clear hA0 hval0
  simp only [List.append_nil] at hW'
  refine (walk W D0 P0 Q0 w0 D1 P1 Q1 w1 a2 b2 w2 a3 w3 a4 b4 w4 a5 w5).mono fun e W' ⟨he, hb⟩ => ?_
  subst he
  exact ⟨_, rfl, post_of_below (pa := _) (pv := []) hW' (fun _ _ _ => (trodAll_cons_mk (shut_bool Tryz.underlying4 _) trodAll_mk0)) (fun sp hsp => trodAll_stays (by kernel_rfl) hb (by kernel_rfl) hAk (fun x hx => hW'.lt x (by simpa using hx)) (fun x hx => hsp x (by simpa using hx))) (fun _ _ => rfl) (by simp) hb (ok_one (by kernel_rfl) rfl (okWide_bool_mk Tryz.underlying4 _))⟩
theorem over_ : Rows.pointTellsRow.holds Tryz.pinned (OpenSpec.ofChange Rows.pointTellsSpec) :=
  OpenClaim.holds_of_wide 3 Tryz.f3 rfl rfl rfl rfl rfl rfl rfl ⟨rfl, rfl, rfl, rfl, rfl⟩ rfl rfl rfl rfl rfl (by kernel_rfl) Tryz.func3 (by kernel_rfl)
    (of_decide_eq_true (by kernel_rfl)) (by unfold Func.isWrapper; first | (rw [if_pos (by decide +kernel)]; kernel_rfl) | (rw [if_neg (by decide +kernel)]; exact ⟨rfl, rfl⟩))
    (fun os started H enc _ => lifted os started H enc)
/-- The statement. -/
theorem proved : Rows.PointTellsSaid := over_
#print axioms proved
end Go.Proofs.YtplgmlcoeehnfaaGreat.pointTells
