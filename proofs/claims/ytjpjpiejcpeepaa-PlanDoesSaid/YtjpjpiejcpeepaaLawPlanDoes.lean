/- PlanDoes: a sector as it will be, plans with more, and devices on which they are laid, are the document's: any device, any plan, any place, any text. No condition. -/
import Derived.Test.YtjpjpiejcpeepaaLaw05a
import Derived.Test.YtjpjpiejcpeepaaLay5
import Derived.Test.YtjpjpiejcpeepaaPlan6
import Derived.Test.YtjpjpiejcpeepaaOpen
import Derived.Test.YtjpjpiejcpeepaaShut
set_option linter.unusedVariables false
namespace Go.Proofs.Ytjpjpiejcpeepaa.planDoes
open Go.RowKit Go.Shelf Go.WideShapes Go.ChangeShapes Go.ChangeAt
open Go.ChangeMaps (open_string shut_string)
attribute [local go_sem] bs_mk bs_append bs_extract bs_size bs_toList bs_get

theorem patch_fit {D : Dk} {L : Pn} (h : L.Fit) (k o : Int) (s : List UInt8) : (Pn.patch D L k o s).1.Fit := by
  rw [Pn.patch]
  split
  · exact h
  · split
    · exact h
    · exact Pn.set_fit h _ _

set_option maxRecDepth 100000 in
theorem walk_no (D : Dk) (L : Pn) (p q p' q' : Pl) (k o : Int) (s : List UInt8) (w : World) (h0 : IsDk0 w D p q) (hbl : D.bad.length ≤ 17592186044416) (hL : IsPn w L p' q') (hg : good D L = false) :
    Calls Try.prog 9 #[dval D p q, pval L p' q', .int .i64 k, .int .i64 o, .string (bs s)] w fun e w' => e = .returned (.bool true) ∧ Below w.heap.size w w' := by
  have hG := fun (W : World) (hb : Below w.heap.size w W) => good05 D L p q p' q' W (h0.below hb) (hL.below hb) hbl
  rw [hg] at hG
  clear h0 hL hg
  obtain ⟨A1, a1⟩ := p
  obtain ⟨A2, a2⟩ := q
  obtain ⟨B1, b1⟩ := p'
  obtain ⟨B2, b2⟩ := q'
  have hB := Below.refl w.heap.size w
  have x := Blk.new w 25 #[.string (bs D.data), .slice A1 D.cache.length a1, .int .i64 D.fuse, .bool D.off, .slice A2 D.bad.length a2]
  have xk := blk5 x
  have hB_1 := hB.alloc hB.size (.cells #[.string (bs D.data), .slice A1 D.cache.length a1, .int .i64 D.fuse, .bool D.off, .slice A2 D.bad.length a2] 25)
  have z := Blk.new (w.alloc (.cells #[.string (bs D.data), .slice A1 D.cache.length a1, .int .i64 D.fuse, .bool D.off, .slice A2 D.bad.length a2] 25)) 28 #[.slice B1 L.targets.length b1, .slice B2 L.data.length b2]
  simp only [World.size_alloc] at z
  have zk := blk2 z
  have hB_2 := hB_1.alloc hB_1.size (.cells #[.slice B1 L.targets.length b1, .slice B2 L.data.length b2] 28)
  have x_3 := x.alloc (.cells #[.slice B1 L.targets.length b1, .slice B2 L.data.length b2] 28)
  have xk_3 := blk5 x_3
  go_enter Try.func9, Try.ntmps9
  go_wp2_with fail
  go_at_call 13
  refine ((hG _ hB_2)).mono ?_
  rintro e w1 ⟨rfl, hb1⟩
  replace hB := bt hB_2 hb1
  replace x := x_3.below hb1 x_3.lt
  replace xk := blk5 x
  replace z := z.below hb1 z.lt
  replace zk := blk2 z
  clear hB_1 hB_2 xk_3 x_3
  go_wp2_with fail
  go_at_call 14
  refine ((awake05 _)).mono ?_
  rintro e w2 ⟨rfl, hb2⟩
  replace hB := bt hB hb2
  replace x := x.below hb2 x.lt
  replace xk := blk5 x
  replace z := z.below hb2 z.lt
  replace zk := blk2 z
  go_wp2_with fail
  go_ret
  exact ⟨rfl, hB⟩

set_option maxRecDepth 100000 in
set_option maxHeartbeats 1000000 in
theorem walk_ok (D : Dk) (L : Pn) (p q p' q' : Pl) (k o : Int) (s : List UInt8) (w : World) (h0 : IsDk0 w D p q) (hbl : D.bad.length ≤ 17592186044416) (hL : IsPn w L p' q') (hg : good D L = true) (hk : okInt k) (ho : okInt o) (hs : s.length ≤ 9223372036854775807) :
    Calls Try.prog 9 #[dval D p q, pval L p' q', .int .i64 k, .int .i64 o, .string (bs s)] w fun e w' => e = .returned (.bool true) ∧ Below w.heap.size w w' := by
  obtain ⟨g1, g2, g3, g4⟩ := good_iff.1 hg
  have hD := h0.full (by omega) hbl (by omega)
  have hG := fun (W : World) (hb : Below w.heap.size w W) => good05 D L p q p' q' W (h0.below hb) (hL.below hb) hbl
  rw [hg] at hG
  have hdl := (Dk.fit_parts g3).2.2.1
  have t1 : L.targets.length ≤ 1000000 := by have := g4.2.1; omega
  have h1 := fun (W : World) (hb : Below w.heap.size w W) => pl_look D L p q p' q' W (hD.below hb) (hL.below hb) k hdl t1 g4.1
  have h2 := fun (W : World) (hb : Below w.heap.size w W) => r5_look D L p q p' q' W (hD.below hb) (hL.below hb) k hdl t1 g4.1
  have h3 := fun (W : World) (hb : Below w.heap.size w W) => pl_set L p' q' W (hL.below hb) k hk s hs t1 g4.1
  have h4 := fun (W : World) (hb : Below w.heap.size w W) => r5_set L p' q' W (hL.below hb) k hk s hs t1 g4.1
  have h5 := fun (W : World) (hb : Below w.heap.size w W) => pl_patch D L p q p' q' W (hD.below hb) (hL.below hb) g3 g4 k o hk s hs
  have h6 := fun (W : World) (hb : Below w.heap.size w W) => r5_patch D L p q p' q' W (hD.below hb) (hL.below hb) g3 g4 k o hk s hs
  have h7 := fun (W : World) (hb : Below w.heap.size w W) => pl_lay D L p q p' q' W (hD.below hb) (hL.below hb) g4.1 t1
  have h8 := fun (W : World) (hb : Below w.heap.size w W) => r5_lay D L p q p' q' W (hD.below hb) (hL.below hb) g4.1 t1
  have hXf := Pn.set_fit g4 k s
  have hYf := patch_fit (D := D) g4 k o s
  generalize Pn.lay D L = E at h7 h8
  generalize Pn.patch D L k o s = Y at h5 h6 hYf
  generalize Pn.set L k s = X at h3 h4 hXf
  generalize Pn.look D L k = G at h1 h2
  obtain ⟨E, ee⟩ := E
  obtain ⟨Y, ye⟩ := Y
  obtain ⟨X, xe⟩ := X
  obtain ⟨G, ge⟩ := G
  have hsX := fun (W : World) (p1 q1 p2 q2 : Pl) (h : IsPn W X p1 q1) (h' : IsPn W X p2 q2) => r5_same X X p1 q1 p2 q2 W h h' (by have := hXf.2.1; simp only at this; omega) (by have := hXf.2.1; have := hXf.1; simp only at *; omega) (by have := hXf.2.1; simp only at this; omega) (by have := hXf.2.1; have := hXf.1; simp only at *; omega)
  rw [Pn.same_self] at hsX
  have hsY := fun (W : World) (p1 q1 p2 q2 : Pl) (h : IsPn W Y p1 q1) (h' : IsPn W Y p2 q2) => r5_same Y Y p1 q1 p2 q2 W h h' (by have := hYf.2.1; simp only at this; omega) (by have := hYf.2.1; have := hYf.1; simp only at *; omega) (by have := hYf.2.1; simp only at this; omega) (by have := hYf.2.1; have := hYf.1; simp only at *; omega)
  rw [Pn.same_self] at hsY
  have hsE := fun (W : World) (p1 q1 p2 q2 : Pl) (h : IsDk W E p1 q1) (h' : IsDk W E p2 q2) => r1_same E E p1 q1 p2 q2 W h h'
  rw [Dk.same_self] at hsE
  clear h0 hL hg hD g1 g2 g3 g4 hXf hYf hdl t1
  obtain ⟨A1, a1⟩ := p
  obtain ⟨A2, a2⟩ := q
  obtain ⟨B1, b1⟩ := p'
  obtain ⟨B2, b2⟩ := q'
  have hB := Below.refl w.heap.size w
  have x := Blk.new w 25 #[.string (bs D.data), .slice A1 D.cache.length a1, .int .i64 D.fuse, .bool D.off, .slice A2 D.bad.length a2]
  have xk := blk5 x
  have hB_1 := hB.alloc hB.size (.cells #[.string (bs D.data), .slice A1 D.cache.length a1, .int .i64 D.fuse, .bool D.off, .slice A2 D.bad.length a2] 25)
  have z := Blk.new (w.alloc (.cells #[.string (bs D.data), .slice A1 D.cache.length a1, .int .i64 D.fuse, .bool D.off, .slice A2 D.bad.length a2] 25)) 28 #[.slice B1 L.targets.length b1, .slice B2 L.data.length b2]
  simp only [World.size_alloc] at z
  have zk := blk2 z
  have hB_2 := hB_1.alloc hB_1.size (.cells #[.slice B1 L.targets.length b1, .slice B2 L.data.length b2] 28)
  have x_3 := x.alloc (.cells #[.slice B1 L.targets.length b1, .slice B2 L.data.length b2] 28)
  have xk_3 := blk5 x_3
  go_enter Try.func9, Try.ntmps9
  go_wp2_with fail
  go_at_call 13
  refine ((hG _ hB_2)).mono ?_
  rintro e w1 ⟨rfl, hb1⟩
  replace hB := bt hB_2 hb1
  replace x := x_3.below hb1 x_3.lt
  replace xk := blk5 x
  replace z := z.below hb1 z.lt
  replace zk := blk2 z
  clear hB_1 hB_2 xk_3 x_3
  go_wp2_with fail
  go_at_call 17
  refine ((h1 _ hB)).mono ?_
  rintro e w2 ⟨rfl, hb2⟩
  replace hB := bt hB hb2
  replace x := x.below hb2 x.lt
  replace xk := blk5 x
  replace z := z.below hb2 z.lt
  replace zk := blk2 z
  go_wp2_with fail
  go_at_call 35
  refine ((h2 _ hB)).mono ?_
  rintro e w3 ⟨rfl, hb3⟩
  replace hB := bt hB hb3
  replace x := x.below hb3 x.lt
  replace xk := blk5 x
  replace z := z.below hb3 z.lt
  replace zk := blk2 z
  go_wp2_with fail
  go_at_call 15
  refine ((h3 _ hB)).mono ?_
  rintro e w4 ⟨⟨p1, q1, rfl, i1, o1⟩, hb4⟩
  replace hB := bt hB hb4
  replace x := x.below hb4 x.lt
  replace xk := blk5 x
  replace z := z.below hb4 z.lt
  replace zk := blk2 z
  have y := Blk.new w4 28 #[.slice p1.a X.targets.length p1.c, .slice q1.a X.data.length q1.c]
  have yk := blk2 y
  have hB_4 := hB.alloc hB.size (.cells #[.slice p1.a X.targets.length p1.c, .slice q1.a X.data.length q1.c] 28)
  have x_5 := x.alloc (.cells #[.slice p1.a X.targets.length p1.c, .slice q1.a X.data.length q1.c] 28)
  have xk_5 := blk5 x_5
  have z_6 := z.alloc (.cells #[.slice p1.a X.targets.length p1.c, .slice q1.a X.data.length q1.c] 28)
  have zk_6 := blk2 z_6
  have i1_7 := i1.below ((Below.refl _ _).alloc (Nat.le_refl _) (.cells #[.slice p1.a X.targets.length p1.c, .slice q1.a X.data.length q1.c] 28))
  go_wp2_with fail
  go_at_call 36
  refine ((h4 _ hB_4)).mono ?_
  rintro e w5 ⟨⟨p2, q2, rfl, i2, o2⟩, hb5⟩
  replace hB := bt hB_4 hb5
  replace x := x_5.below hb5 x_5.lt
  replace xk := blk5 x
  replace z := z_6.below hb5 z_6.lt
  replace zk := blk2 z
  replace i1 := i1_7.below hb5
  replace y := y.below hb5 y.lt
  replace yk := blk2 y
  clear hB_4 xk_5 x_5 zk_6 z_6 i1_7
  have s2 := Blk.new w5 28 #[.slice p2.a X.targets.length p2.c, .slice q2.a X.data.length q2.c]
  have s2k := blk2 s2
  have hB_8 := hB.alloc hB.size (.cells #[.slice p2.a X.targets.length p2.c, .slice q2.a X.data.length q2.c] 28)
  have x_9 := x.alloc (.cells #[.slice p2.a X.targets.length p2.c, .slice q2.a X.data.length q2.c] 28)
  have xk_9 := blk5 x_9
  have z_10 := z.alloc (.cells #[.slice p2.a X.targets.length p2.c, .slice q2.a X.data.length q2.c] 28)
  have zk_10 := blk2 z_10
  have i1_11 := i1.below ((Below.refl _ _).alloc (Nat.le_refl _) (.cells #[.slice p2.a X.targets.length p2.c, .slice q2.a X.data.length q2.c] 28))
  have y_12 := y.alloc (.cells #[.slice p2.a X.targets.length p2.c, .slice q2.a X.data.length q2.c] 28)
  have yk_12 := blk2 y_12
  have i2_13 := i2.below ((Below.refl _ _).alloc (Nat.le_refl _) (.cells #[.slice p2.a X.targets.length p2.c, .slice q2.a X.data.length q2.c] 28))
  go_wp2_with fail
  go_at_call 37
  refine ((h5 _ hB_8)).mono ?_
  rintro e w6 ⟨⟨p3, q3, rfl, i3, o3⟩, hb6⟩
  replace hB := bt hB_8 hb6
  replace x := x_9.below hb6 x_9.lt
  replace xk := blk5 x
  replace z := z_10.below hb6 z_10.lt
  replace zk := blk2 z
  replace i1 := i1_11.below hb6
  replace y := y_12.below hb6 y_12.lt
  replace yk := blk2 y
  replace i2 := i2_13.below hb6
  replace s2 := s2.below hb6 s2.lt
  replace s2k := blk2 s2
  clear hB_8 xk_9 x_9 zk_10 z_10 i1_11 yk_12 y_12 i2_13
  have y3 := Blk.new w6 28 #[.slice p3.a Y.targets.length p3.c, .slice q3.a Y.data.length q3.c]
  have y3k := blk2 y3
  have hB_14 := hB.alloc hB.size (.cells #[.slice p3.a Y.targets.length p3.c, .slice q3.a Y.data.length q3.c] 28)
  have x_15 := x.alloc (.cells #[.slice p3.a Y.targets.length p3.c, .slice q3.a Y.data.length q3.c] 28)
  have xk_15 := blk5 x_15
  have z_16 := z.alloc (.cells #[.slice p3.a Y.targets.length p3.c, .slice q3.a Y.data.length q3.c] 28)
  have zk_16 := blk2 z_16
  have i1_17 := i1.below ((Below.refl _ _).alloc (Nat.le_refl _) (.cells #[.slice p3.a Y.targets.length p3.c, .slice q3.a Y.data.length q3.c] 28))
  have y_18 := y.alloc (.cells #[.slice p3.a Y.targets.length p3.c, .slice q3.a Y.data.length q3.c] 28)
  have yk_18 := blk2 y_18
  have i2_19 := i2.below ((Below.refl _ _).alloc (Nat.le_refl _) (.cells #[.slice p3.a Y.targets.length p3.c, .slice q3.a Y.data.length q3.c] 28))
  have s2_20 := s2.alloc (.cells #[.slice p3.a Y.targets.length p3.c, .slice q3.a Y.data.length q3.c] 28)
  have s2k_20 := blk2 s2_20
  have i3_21 := i3.below ((Below.refl _ _).alloc (Nat.le_refl _) (.cells #[.slice p3.a Y.targets.length p3.c, .slice q3.a Y.data.length q3.c] 28))
  go_wp2_with fail
  go_at_call 38
  refine ((h6 _ hB_14)).mono ?_
  rintro e w7 ⟨⟨p4, q4, rfl, i4, o4⟩, hb7⟩
  replace hB := bt hB_14 hb7
  replace x := x_15.below hb7 x_15.lt
  replace xk := blk5 x
  replace z := z_16.below hb7 z_16.lt
  replace zk := blk2 z
  replace i1 := i1_17.below hb7
  replace y := y_18.below hb7 y_18.lt
  replace yk := blk2 y
  replace i2 := i2_19.below hb7
  replace s2 := s2_20.below hb7 s2_20.lt
  replace s2k := blk2 s2
  replace i3 := i3_21.below hb7
  replace y3 := y3.below hb7 y3.lt
  replace y3k := blk2 y3
  clear hB_14 xk_15 x_15 zk_16 z_16 i1_17 yk_18 y_18 i2_19 s2k_20 s2_20 i3_21
  have y4 := Blk.new w7 28 #[.slice p4.a Y.targets.length p4.c, .slice q4.a Y.data.length q4.c]
  have y4k := blk2 y4
  have hB_22 := hB.alloc hB.size (.cells #[.slice p4.a Y.targets.length p4.c, .slice q4.a Y.data.length q4.c] 28)
  have x_23 := x.alloc (.cells #[.slice p4.a Y.targets.length p4.c, .slice q4.a Y.data.length q4.c] 28)
  have xk_23 := blk5 x_23
  have z_24 := z.alloc (.cells #[.slice p4.a Y.targets.length p4.c, .slice q4.a Y.data.length q4.c] 28)
  have zk_24 := blk2 z_24
  have i1_25 := i1.below ((Below.refl _ _).alloc (Nat.le_refl _) (.cells #[.slice p4.a Y.targets.length p4.c, .slice q4.a Y.data.length q4.c] 28))
  have y_26 := y.alloc (.cells #[.slice p4.a Y.targets.length p4.c, .slice q4.a Y.data.length q4.c] 28)
  have yk_26 := blk2 y_26
  have i2_27 := i2.below ((Below.refl _ _).alloc (Nat.le_refl _) (.cells #[.slice p4.a Y.targets.length p4.c, .slice q4.a Y.data.length q4.c] 28))
  have s2_28 := s2.alloc (.cells #[.slice p4.a Y.targets.length p4.c, .slice q4.a Y.data.length q4.c] 28)
  have s2k_28 := blk2 s2_28
  have i3_29 := i3.below ((Below.refl _ _).alloc (Nat.le_refl _) (.cells #[.slice p4.a Y.targets.length p4.c, .slice q4.a Y.data.length q4.c] 28))
  have y3_30 := y3.alloc (.cells #[.slice p4.a Y.targets.length p4.c, .slice q4.a Y.data.length q4.c] 28)
  have y3k_30 := blk2 y3_30
  have i4_31 := i4.below ((Below.refl _ _).alloc (Nat.le_refl _) (.cells #[.slice p4.a Y.targets.length p4.c, .slice q4.a Y.data.length q4.c] 28))
  go_wp2_with fail
  go_at_call 39
  refine ((h7 _ hB_22)).mono ?_
  rintro e w8 ⟨⟨p5, q5, rfl, i5, o5⟩, hb8⟩
  replace hB := bt hB_22 hb8
  replace x := x_23.below hb8 x_23.lt
  replace xk := blk5 x
  replace z := z_24.below hb8 z_24.lt
  replace zk := blk2 z
  replace i1 := i1_25.below hb8
  replace y := y_26.below hb8 y_26.lt
  replace yk := blk2 y
  replace i2 := i2_27.below hb8
  replace s2 := s2_28.below hb8 s2_28.lt
  replace s2k := blk2 s2
  replace i3 := i3_29.below hb8
  replace y3 := y3_30.below hb8 y3_30.lt
  replace y3k := blk2 y3
  replace i4 := i4_31.below hb8
  replace y4 := y4.below hb8 y4.lt
  replace y4k := blk2 y4
  clear hB_22 xk_23 x_23 zk_24 z_24 i1_25 yk_26 y_26 i2_27 s2k_28 s2_28 i3_29 y3k_30 y3_30 i4_31
  have y5 := Blk.new w8 25 #[.string (bs E.data), .slice p5.a E.cache.length p5.c, .int .i64 E.fuse, .bool E.off, .slice q5.a E.bad.length q5.c]
  have y5k := blk5 y5
  have hB_32 := hB.alloc hB.size (.cells #[.string (bs E.data), .slice p5.a E.cache.length p5.c, .int .i64 E.fuse, .bool E.off, .slice q5.a E.bad.length q5.c] 25)
  have x_33 := x.alloc (.cells #[.string (bs E.data), .slice p5.a E.cache.length p5.c, .int .i64 E.fuse, .bool E.off, .slice q5.a E.bad.length q5.c] 25)
  have xk_33 := blk5 x_33
  have z_34 := z.alloc (.cells #[.string (bs E.data), .slice p5.a E.cache.length p5.c, .int .i64 E.fuse, .bool E.off, .slice q5.a E.bad.length q5.c] 25)
  have zk_34 := blk2 z_34
  have i1_35 := i1.below ((Below.refl _ _).alloc (Nat.le_refl _) (.cells #[.string (bs E.data), .slice p5.a E.cache.length p5.c, .int .i64 E.fuse, .bool E.off, .slice q5.a E.bad.length q5.c] 25))
  have y_36 := y.alloc (.cells #[.string (bs E.data), .slice p5.a E.cache.length p5.c, .int .i64 E.fuse, .bool E.off, .slice q5.a E.bad.length q5.c] 25)
  have yk_36 := blk2 y_36
  have i2_37 := i2.below ((Below.refl _ _).alloc (Nat.le_refl _) (.cells #[.string (bs E.data), .slice p5.a E.cache.length p5.c, .int .i64 E.fuse, .bool E.off, .slice q5.a E.bad.length q5.c] 25))
  have s2_38 := s2.alloc (.cells #[.string (bs E.data), .slice p5.a E.cache.length p5.c, .int .i64 E.fuse, .bool E.off, .slice q5.a E.bad.length q5.c] 25)
  have s2k_38 := blk2 s2_38
  have i3_39 := i3.below ((Below.refl _ _).alloc (Nat.le_refl _) (.cells #[.string (bs E.data), .slice p5.a E.cache.length p5.c, .int .i64 E.fuse, .bool E.off, .slice q5.a E.bad.length q5.c] 25))
  have y3_40 := y3.alloc (.cells #[.string (bs E.data), .slice p5.a E.cache.length p5.c, .int .i64 E.fuse, .bool E.off, .slice q5.a E.bad.length q5.c] 25)
  have y3k_40 := blk2 y3_40
  have i4_41 := i4.below ((Below.refl _ _).alloc (Nat.le_refl _) (.cells #[.string (bs E.data), .slice p5.a E.cache.length p5.c, .int .i64 E.fuse, .bool E.off, .slice q5.a E.bad.length q5.c] 25))
  have y4_42 := y4.alloc (.cells #[.string (bs E.data), .slice p5.a E.cache.length p5.c, .int .i64 E.fuse, .bool E.off, .slice q5.a E.bad.length q5.c] 25)
  have y4k_42 := blk2 y4_42
  have i5_43 := i5.below ((Below.refl _ _).alloc (Nat.le_refl _) (.cells #[.string (bs E.data), .slice p5.a E.cache.length p5.c, .int .i64 E.fuse, .bool E.off, .slice q5.a E.bad.length q5.c] 25))
  go_wp2_with fail
  go_at_call 40
  refine ((h8 _ hB_32)).mono ?_
  rintro e w9 ⟨⟨p6, q6, rfl, i6, o6⟩, hb9⟩
  replace hB := bt hB_32 hb9
  replace x := x_33.below hb9 x_33.lt
  replace xk := blk5 x
  replace z := z_34.below hb9 z_34.lt
  replace zk := blk2 z
  replace i1 := i1_35.below hb9
  replace y := y_36.below hb9 y_36.lt
  replace yk := blk2 y
  replace i2 := i2_37.below hb9
  replace s2 := s2_38.below hb9 s2_38.lt
  replace s2k := blk2 s2
  replace i3 := i3_39.below hb9
  replace y3 := y3_40.below hb9 y3_40.lt
  replace y3k := blk2 y3
  replace i4 := i4_41.below hb9
  replace y4 := y4_42.below hb9 y4_42.lt
  replace y4k := blk2 y4
  replace i5 := i5_43.below hb9
  replace y5 := y5.below hb9 y5.lt
  replace y5k := blk5 y5
  clear hB_32 xk_33 x_33 zk_34 z_34 i1_35 yk_36 y_36 i2_37 s2k_38 s2_38 i3_39 y3k_40 y3_40 i4_41 y4k_42 y4_42 i5_43
  have y6 := Blk.new w9 25 #[.string (bs E.data), .slice p6.a E.cache.length p6.c, .int .i64 E.fuse, .bool E.off, .slice q6.a E.bad.length q6.c]
  have y6k := blk5 y6
  have hB_44 := hB.alloc hB.size (.cells #[.string (bs E.data), .slice p6.a E.cache.length p6.c, .int .i64 E.fuse, .bool E.off, .slice q6.a E.bad.length q6.c] 25)
  have x_45 := x.alloc (.cells #[.string (bs E.data), .slice p6.a E.cache.length p6.c, .int .i64 E.fuse, .bool E.off, .slice q6.a E.bad.length q6.c] 25)
  have xk_45 := blk5 x_45
  have z_46 := z.alloc (.cells #[.string (bs E.data), .slice p6.a E.cache.length p6.c, .int .i64 E.fuse, .bool E.off, .slice q6.a E.bad.length q6.c] 25)
  have zk_46 := blk2 z_46
  have i1_47 := i1.below ((Below.refl _ _).alloc (Nat.le_refl _) (.cells #[.string (bs E.data), .slice p6.a E.cache.length p6.c, .int .i64 E.fuse, .bool E.off, .slice q6.a E.bad.length q6.c] 25))
  have y_48 := y.alloc (.cells #[.string (bs E.data), .slice p6.a E.cache.length p6.c, .int .i64 E.fuse, .bool E.off, .slice q6.a E.bad.length q6.c] 25)
  have yk_48 := blk2 y_48
  have i2_49 := i2.below ((Below.refl _ _).alloc (Nat.le_refl _) (.cells #[.string (bs E.data), .slice p6.a E.cache.length p6.c, .int .i64 E.fuse, .bool E.off, .slice q6.a E.bad.length q6.c] 25))
  have s2_50 := s2.alloc (.cells #[.string (bs E.data), .slice p6.a E.cache.length p6.c, .int .i64 E.fuse, .bool E.off, .slice q6.a E.bad.length q6.c] 25)
  have s2k_50 := blk2 s2_50
  have i3_51 := i3.below ((Below.refl _ _).alloc (Nat.le_refl _) (.cells #[.string (bs E.data), .slice p6.a E.cache.length p6.c, .int .i64 E.fuse, .bool E.off, .slice q6.a E.bad.length q6.c] 25))
  have y3_52 := y3.alloc (.cells #[.string (bs E.data), .slice p6.a E.cache.length p6.c, .int .i64 E.fuse, .bool E.off, .slice q6.a E.bad.length q6.c] 25)
  have y3k_52 := blk2 y3_52
  have i4_53 := i4.below ((Below.refl _ _).alloc (Nat.le_refl _) (.cells #[.string (bs E.data), .slice p6.a E.cache.length p6.c, .int .i64 E.fuse, .bool E.off, .slice q6.a E.bad.length q6.c] 25))
  have y4_54 := y4.alloc (.cells #[.string (bs E.data), .slice p6.a E.cache.length p6.c, .int .i64 E.fuse, .bool E.off, .slice q6.a E.bad.length q6.c] 25)
  have y4k_54 := blk2 y4_54
  have i5_55 := i5.below ((Below.refl _ _).alloc (Nat.le_refl _) (.cells #[.string (bs E.data), .slice p6.a E.cache.length p6.c, .int .i64 E.fuse, .bool E.off, .slice q6.a E.bad.length q6.c] 25))
  have y5_56 := y5.alloc (.cells #[.string (bs E.data), .slice p6.a E.cache.length p6.c, .int .i64 E.fuse, .bool E.off, .slice q6.a E.bad.length q6.c] 25)
  have y5k_56 := blk5 y5_56
  have i6_57 := i6.below ((Below.refl _ _).alloc (Nat.le_refl _) (.cells #[.string (bs E.data), .slice p6.a E.cache.length p6.c, .int .i64 E.fuse, .bool E.off, .slice q6.a E.bad.length q6.c] 25))
  go_wp2_with fail
  go_at_call 16
  refine ((hsX _ p1 q1 p2 q2 i1_47 i2_49)).mono ?_
  rintro e w10 ⟨rfl, hb10⟩
  replace hB := bt hB_44 hb10
  replace x := x_45.below hb10 x_45.lt
  replace xk := blk5 x
  replace z := z_46.below hb10 z_46.lt
  replace zk := blk2 z
  replace i1 := i1_47.below hb10
  replace y := y_48.below hb10 y_48.lt
  replace yk := blk2 y
  replace i2 := i2_49.below hb10
  replace s2 := s2_50.below hb10 s2_50.lt
  replace s2k := blk2 s2
  replace i3 := i3_51.below hb10
  replace y3 := y3_52.below hb10 y3_52.lt
  replace y3k := blk2 y3
  replace i4 := i4_53.below hb10
  replace y4 := y4_54.below hb10 y4_54.lt
  replace y4k := blk2 y4
  replace i5 := i5_55.below hb10
  replace y5 := y5_56.below hb10 y5_56.lt
  replace y5k := blk5 y5
  replace i6 := i6_57.below hb10
  replace y6 := y6.below hb10 y6.lt
  replace y6k := blk5 y6
  clear hB_44 xk_45 x_45 zk_46 z_46 i1_47 yk_48 y_48 i2_49 s2k_50 s2_50 i3_51 y3k_52 y3_52 i4_53 y4k_54 y4_54 i5_55 y5k_56 y5_56 i6_57
  go_wp2_with fail
  go_at_call 16
  refine ((hsY _ p3 q3 p4 q4 i3 i4)).mono ?_
  rintro e w11 ⟨rfl, hb11⟩
  replace hB := bt hB hb11
  replace x := x.below hb11 x.lt
  replace xk := blk5 x
  replace z := z.below hb11 z.lt
  replace zk := blk2 z
  replace i1 := i1.below hb11
  replace y := y.below hb11 y.lt
  replace yk := blk2 y
  replace i2 := i2.below hb11
  replace s2 := s2.below hb11 s2.lt
  replace s2k := blk2 s2
  replace i3 := i3.below hb11
  replace y3 := y3.below hb11 y3.lt
  replace y3k := blk2 y3
  replace i4 := i4.below hb11
  replace y4 := y4.below hb11 y4.lt
  replace y4k := blk2 y4
  replace i5 := i5.below hb11
  replace y5 := y5.below hb11 y5.lt
  replace y5k := blk5 y5
  replace i6 := i6.below hb11
  replace y6 := y6.below hb11 y6.lt
  replace y6k := blk5 y6
  go_wp2_with fail
  go_at_call 26
  refine ((hsE _ p5 q5 p6 q6 i5 i6)).mono ?_
  rintro e w12 ⟨rfl, hb12⟩
  replace hB := bt hB hb12
  replace x := x.below hb12 x.lt
  replace xk := blk5 x
  replace z := z.below hb12 z.lt
  replace zk := blk2 z
  replace i1 := i1.below hb12
  replace y := y.below hb12 y.lt
  replace yk := blk2 y
  replace i2 := i2.below hb12
  replace s2 := s2.below hb12 s2.lt
  replace s2k := blk2 s2
  replace i3 := i3.below hb12
  replace y3 := y3.below hb12 y3.lt
  replace y3k := blk2 y3
  replace i4 := i4.below hb12
  replace y4 := y4.below hb12 y4.lt
  replace y4k := blk2 y4
  replace i5 := i5.below hb12
  replace y5 := y5.below hb12 y5.lt
  replace y5k := blk5 y5
  replace i6 := i6.below hb12
  replace y6 := y6.below hb12 y6.lt
  replace y6k := blk5 y6
  go_wp2_with fail
  go_at_call 14
  refine ((awake05 _)).mono ?_
  rintro e w13 ⟨rfl, hb13⟩
  replace hB := bt hB hb13
  replace x := x.below hb13 x.lt
  replace xk := blk5 x
  replace z := z.below hb13 z.lt
  replace zk := blk2 z
  replace i1 := i1.below hb13
  replace y := y.below hb13 y.lt
  replace yk := blk2 y
  replace i2 := i2.below hb13
  replace s2 := s2.below hb13 s2.lt
  replace s2k := blk2 s2
  replace i3 := i3.below hb13
  replace y3 := y3.below hb13 y3.lt
  replace y3k := blk2 y3
  replace i4 := i4.below hb13
  replace y4 := y4.below hb13 y4.lt
  replace y4k := blk2 y4
  replace i5 := i5.below hb13
  replace y5 := y5.below hb13 y5.lt
  replace y5k := blk5 y5
  replace i6 := i6.below hb13
  replace y6 := y6.below hb13 y6.lt
  replace y6k := blk5 y6
  go_wp2_with fail
  go_ret
  exact ⟨rfl, hB⟩
theorem walk (w : World) (D : Dk) (p q : Pl) (hD : IsDk0 w D p q ∧ D.cache.length * Try.prog.bytesOf 45 ≤ reachBytes ∧ D.bad.length * Try.prog.bytesOf 3 ≤ reachBytes) (L : Pn) (p' q' : Pl) (hL : IsPn w L p' q') (k : Int) (wk : (Lit.int .i64 k).wf = true) (o : Int) (wo : (Lit.int .i64 o).wf = true) (S : ByteArray) (hS : S.size ≤ maxLen) :
    Calls Try.prog 9 #[dval D p q, pval L p' q', .int .i64 k, .int .i64 o, .string S] w fun e w' => e = .returned (.bool true) ∧ Below w.heap.size w w' := by
  obtain ⟨hD, c1, b1⟩ := hD
  rw [show Try.prog.bytesOf 3 = 8 by kernel_rfl] at b1
  unfold reachBytes at b1
  obtain ⟨s, rfl⟩ := bs_of S
  rw [bs_size] at hS
  cases hg : good D L with
  | false => exact walk_no D L p q p' q' k o s w hD (by omega) hL hg
  | true => exact walk_ok D L p q p' q' k o s w hD (by omega) hL hg (okInt_of wk) (okInt_of wo) hS
/-! ### The row -/
theorem own : ownKnob Try.prog.godebug = none := by kernel_rfl
set_option maxRecDepth 100000 in
theorem lifted (os : Os) (started : os.Started) (H : Type) (enc : TypeId × Value → H) :
    ReturnsInHanded {} Try.checked os 9 .any (Rows.planDoesSpec.pre6 enc Try.prog Try.f9 Rows.planDoesRow.domain false) (Rows.planDoesSpec.post enc Try.prog Try.f9 false true false false) := by
  refine returnsInHanded_of_change_sized (C := Try.checked) own started (by kernel_rfl) Try.func9
    (ChangeSpec.witness6 (enc := enc) (C := Try.checked) false ⟨#[], #[.agg #[.string ByteArray.empty, .slice none 0 0, .int .i64 0, .bool false, .slice none 0 0], .agg #[.slice none 0 0, .slice none 0 0], .int .i64 0, .int .i64 0, .string ByteArray.empty], []⟩ 8 (by kernel_rfl) (by kernel_rfl) (by kernel_rfl) (by kernel_rfl)) ?_
  intro W base args ds gs before hval0 hW hcnd hsz0 _
  have hval : ∀ (j : Nat) t v, Try.f9.params[j]? = some t → args[j]? = some v → Value.okWide Try.prog W .any base t v := hval0
  have hW' := hW
  obtain ⟨p, q, hA0, hV, rfl, hfz, hnd⟩ := hW
  have hA : DataW.TrodAll enc Try.prog W 0 (fun _ => true) true Try.f9.params.toList args.toList ds p := hA0
  have hAk := hA
  have hsz : (DataW.weightsEach Try.prog (Try.f9.params.toList ++ Rows.planDoesSpec.plain.varTypes Try.prog) (ds ++ gs)).all (· ≤ reachBytes) = true := hsz0
  rw [Try.params9] at hA hval hsz
  obtain ⟨v0, vs0, d0, ds0, p0, q0, hargs, rfl, rfl, h0, r0⟩ := trodAll_cons hA
  obtain ⟨v1, vs1, d1, ds1, p1, q1, rfl, rfl, rfl, h1, r1⟩ := trodAll_cons r0
  obtain ⟨v2, vs2, d2, ds2, p2, q2, rfl, rfl, rfl, h2, r2⟩ := trodAll_cons r1
  obtain ⟨v3, vs3, d3, ds3, p3, q3, rfl, rfl, rfl, h3, r3⟩ := trodAll_cons r2
  obtain ⟨v4, vs4, d4, ds4, p4, q4, rfl, rfl, rfl, h4, r4⟩ := trodAll_cons r3
  obtain ⟨rfl, rfl, rfl⟩ := trodAll_nil r4
  obtain rfl : args = #[v0, v1, v2, v3, v4] := by cases args; simp_all
  obtain ⟨rfl, rfl⟩ := trodVars_none hV
  obtain ⟨D0, P0, Q0, rfl, w0⟩ := open_dk_sized Try.underlying25 (by kernel_rfl) (by kernel_rfl) Try.underlying9 Try.underlying22 Try.underlying3 Try.underlying4 Try.underlying23 Try.underlying45 (by kernel_rfl) (by kernel_rfl) Try.underlying3 Try.underlying9 Try.underlying3 (by kernel_rfl) (hval 0 25 v0 rfl rfl) h0 (weights_each hsz (j := 0) rfl rfl)
  obtain ⟨D1, P1, Q1, rfl, w1⟩ := open_plan Try.underlying28 (by kernel_rfl) (by kernel_rfl) Try.underlying23 Try.underlying26 Try.underlying3 (by kernel_rfl) Try.underlying9 (by kernel_rfl) (hval 1 28 v1 rfl rfl) h1
  obtain ⟨a2, rfl, rfl, rfl, w2⟩ := open_int Try.underlying3 (hval 2 3 v2 rfl rfl) h2
  obtain ⟨a3, rfl, rfl, rfl, w3⟩ := open_int Try.underlying3 (hval 3 3 v3 rfl rfl) h3
  obtain ⟨a4, rfl, rfl, rfl, w4⟩ := open_string Try.underlying9 (hval 4 9 v4 rfl rfl) h4
  clear hA0 hval0
  simp only [List.append_nil] at hW'
  refine (walk W D0 P0 Q0 w0 D1 P1 Q1 w1 a2 w2 a3 w3 a4 w4).mono fun e W' ⟨he, hb⟩ => ?_
  subst he
  exact ⟨_, rfl, post_of_below (pa := _) (pv := []) hW' (fun _ _ _ => (trodAll_cons_mk (shut_bool Try.underlying4 _) trodAll_mk0)) (fun sp hsp => trodAll_stays (by kernel_rfl) hb (by kernel_rfl) hAk (fun x hx => hW'.lt x (by simpa using hx)) (fun x hx => hsp x (by simpa using hx))) (fun _ _ => rfl) (by simp) hb (ok_one (by kernel_rfl) rfl (okWide_bool_mk Try.underlying4 _))⟩
theorem over_ : Rows.planDoesRow.holds Try.pinned (OpenSpec.ofChange Rows.planDoesSpec) :=
  OpenClaim.holds_of_wide 9 Try.f9 rfl rfl rfl rfl rfl rfl rfl ⟨rfl, rfl, rfl, rfl, rfl⟩ rfl rfl rfl rfl rfl (by kernel_rfl) Try.func9 (by kernel_rfl)
    (of_decide_eq_true (by kernel_rfl)) (by unfold Func.isWrapper; first | (rw [if_pos (by decide +kernel)]; kernel_rfl) | (rw [if_neg (by decide +kernel)]; exact ⟨rfl, rfl⟩))
    (fun os started H enc _ => lifted os started H enc)
/-- The statement. -/
theorem proved : Rows.PlanDoesSaid := over_
#print axioms proved
end Go.Proofs.Ytjpjpiejcpeepaa.planDoes
