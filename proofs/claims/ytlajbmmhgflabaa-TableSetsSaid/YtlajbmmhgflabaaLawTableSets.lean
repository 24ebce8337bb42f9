/- TableSets: plans with another entry, with a table that has nothing, or that is as another one, are the document's: any device, any plan, any numbers, any entry. No condition. -/
import Derived.Test.YtlajbmmhgflabaaLaw11a
import Derived.Test.YtlajbmmhgflabaaTable11
import Derived.Test.YtlajbmmhgflabaaOpen3
import Derived.Test.YtlajbmmhgflabaaShut
set_option linter.unusedVariables false
namespace Go.Proofs.Ytlajbmmhgflabaa.tableSets
open Go.RowKit Go.Shelf Go.WideShapes Go.ChangeShapes Go.ChangeAt
open Go.ChangeMaps (open_string shut_string)
attribute [local go_sem] bs_mk bs_append bs_extract bs_size bs_toList bs_get

set_option maxRecDepth 100000 in
theorem walk_no (D : Dk) (L : Pn) (p q p' q' : Pl) (t i o K A : Int) (w : World) (h0 : IsDk0 w D p q) (hbl : D.bad.length ≤ 17592186044416) (hL : IsPn w L p' q') (hg : good D L = false) :
    Calls Try.prog 8 #[dval D p q, pval L p' q', .int .i64 t, .int .i64 i, .int .i64 o, eval2 K A] w fun e w' => e = .returned (.bool true) ∧ Below w.heap.size w w' := by
  have hG := fun (W : World) (hb : Below w.heap.size w W) => good11 D L p q p' q' W (h0.below hb) (hL.below hb) hbl
  rw [hg] at hG
  clear h0 hL hg
  obtain ⟨A1, a1⟩ := p
  obtain ⟨A2, a2⟩ := q
  obtain ⟨B1, b1⟩ := p'
  obtain ⟨B2, b2⟩ := q'
  have hB := Below.refl w.heap.size w
  have x := Blk.new w 25 #[.string (bs D.data), .slice A1 D.cache.length a1, .int .i64 D.fuse, .bool D.off, .slice A2 D.bad.length a2]
  have xk := blk5 x
  have hB_1 := hB.alloc hB.size (.cells #[.string (bs D.data), .slice A1 D.cache.length a1, .int .i64 D.fuse, .bool D.off, .slice A2 D.bad.length a2] 25)
  have z := Blk.new (w.alloc (.cells #[.string (bs D.data), .slice A1 D.cache.length a1, .int .i64 D.fuse, .bool D.off, .slice A2 D.bad.length a2] 25)) 28 #[.slice B1 L.targets.length b1, .slice B2 L.data.length b2]
  simp only [World.size_alloc] at z
  have zk := blk2 z
  have hB_2 := hB_1.alloc hB_1.size (.cells #[.slice B1 L.targets.length b1, .slice B2 L.data.length b2] 28)
  have x_3 := x.alloc (.cells #[.slice B1 L.targets.length b1, .slice B2 L.data.length b2] 28)
  have xk_3 := blk5 x_3
  have y := Blk.new ((w.alloc (.cells #[.string (bs D.data), .slice A1 D.cache.length a1, .int .i64 D.fuse, .bool D.off, .slice A2 D.bad.length a2] 25)).alloc (.cells #[.slice B1 L.targets.length b1, .slice B2 L.data.length b2] 28)) 49 #[.int .i64 K, .int .i64 A]
  simp only [World.size_alloc] at y
  have yk := blk2 y
  have hB_4 := hB_2.alloc hB_2.size (.cells #[.int .i64 K, .int .i64 A] 49)
  have x_5 := x_3.alloc (.cells #[.int .i64 K, .int .i64 A] 49)
  have xk_5 := blk5 x_5
  have z_6 := z.alloc (.cells #[.int .i64 K, .int .i64 A] 49)
  have zk_6 := blk2 z_6
  go_enter Try.func8, Try.ntmps8
  go_wp2_with fail
  go_at_call 23
  refine ((hG _ hB_4)).mono ?_
  rintro e w1 ⟨rfl, hb1⟩
  replace hB := bt hB_4 hb1
  replace x := x_5.below hb1 x_5.lt
  replace xk := blk5 x
  replace z := z_6.below hb1 z_6.lt
  replace zk := blk2 z
  replace y := y.below hb1 y.lt
  replace yk := blk2 y
  clear hB_1 hB_2 xk_3 x_3 hB_4 xk_5 x_5 zk_6 z_6
  go_wp2_with fail
  go_at_call 24
  refine ((awake11 _)).mono ?_
  rintro e w2 ⟨rfl, hb2⟩
  replace hB := bt hB hb2
  replace x := x.below hb2 x.lt
  replace xk := blk5 x
  replace z := z.below hb2 z.lt
  replace zk := blk2 z
  replace y := y.below hb2 y.lt
  replace yk := blk2 y
  go_wp2_with fail
  go_ret
  exact ⟨rfl, hB⟩

set_option maxRecDepth 100000 in
set_option maxHeartbeats 2000000 in
theorem walk_ok (D : Dk) (L : Pn) (p q p' q' : Pl) (t i o K A : Int) (w : World) (h0 : IsDk0 w D p q) (hbl : D.bad.length ≤ 17592186044416) (hL : IsPn w L p' q') (hg : good D L = true) :
    Calls Try.prog 8 #[dval D p q, pval L p' q', .int .i64 t, .int .i64 i, .int .i64 o, eval2 K A] w fun e w' => e = .returned (.bool true) ∧ Below w.heap.size w w' := by
  obtain ⟨g1, g2, g3, g4⟩ := good_iff.1 hg
  have hD := h0.full (by omega) hbl (by omega)
  have hG := fun (W : World) (hb : Below w.heap.size w W) => good11 D L p q p' q' W (h0.below hb) (hL.below hb) hbl
  rw [hg] at hG
  have hdl := (Dk.fit_parts g3).2.2.1
  have h1 := fun (W : World) (hb : Below w.heap.size w W) => t_set D L p q p' q' W (hD.below hb) (hL.below hb) g3 g4 t i K A
  have h2 := fun (W : World) (hb : Below w.heap.size w W) => t11_set D L p q p' q' W (hD.below hb) (hL.below hb) g3 g4 t i K A
  have h3 := fun (W : World) (hb : Below w.heap.size w W) => t_blank L p' q' W (hL.below hb) g4 t
  have h4 := fun (W : World) (hb : Below w.heap.size w W) => t11_blank L p' q' W (hL.below hb) g4 t
  have h5 := fun (W : World) (hb : Below w.heap.size w W) => t_copy D L p q p' q' W (hD.below hb) (hL.below hb) g3 g4 t o
  have h6 := fun (W : World) (hb : Below w.heap.size w W) => t11_copy D L p q p' q' W (hD.below hb) (hL.below hb) g3 g4 t o
  have hX1 : (Pn.tabSet D L t i K A).1.Fit := by
    by_cases h : (Pn.tabSet D L t i K A).2 = 0
    · exact (Pn.tabSet_ok g3 g4 (X := (Pn.tabSet D L t i K A).1) (Prod.ext rfl h)).1
    · rw [Pn.tabSet_not h]; exact g4
  have hX2 : (Pn.tabBlank L t).1.Fit := by
    by_cases h : (Pn.tabBlank L t).2 = 0
    · exact (Pn.tabBlank_ok (D := D) g4 (X := (Pn.tabBlank L t).1) (Prod.ext rfl h)).1
    · rw [Pn.tabBlank_not h]; exact g4
  have hX3 : (Pn.tabCopy D L t o).1.Fit := by
    by_cases h : (Pn.tabCopy D L t o).2 = 0
    · exact (Pn.tabCopy_ok (D := D) g4 (X := (Pn.tabCopy D L t o).1) (Prod.ext rfl h)).1
    · rw [Pn.tabCopy_not h]; exact g4
  generalize Pn.tabSet D L t i K A = S1 at h1 h2 hX1
  generalize Pn.tabBlank L t = S2 at h3 h4 hX2
  generalize Pn.tabCopy D L t o = S3 at h5 h6 hX3
  obtain ⟨X1, e1⟩ := S1
  obtain ⟨X2, e2⟩ := S2
  obtain ⟨X3, e3⟩ := S3
  simp only at hX1 hX2 hX3
  have hs1 := fun (W : World) (p1 q1 p2 q2 : Pl) (h : IsPn W X1 p1 q1) (h' : IsPn W X1 p2 q2) => r5_same X1 X1 p1 q1 p2 q2 W h h' (by have := hX1.2.1; omega) (by have := hX1.2.1; have := hX1.1; omega) (by have := hX1.2.1; omega) (by have := hX1.2.1; have := hX1.1; omega)
  rw [Pn.same_self] at hs1
  have hs2 := fun (W : World) (p1 q1 p2 q2 : Pl) (h : IsPn W X2 p1 q1) (h' : IsPn W X2 p2 q2) => r5_same X2 X2 p1 q1 p2 q2 W h h' (by have := hX2.2.1; omega) (by have := hX2.2.1; have := hX2.1; omega) (by have := hX2.2.1; omega) (by have := hX2.2.1; have := hX2.1; omega)
  rw [Pn.same_self] at hs2
  have hs3 := fun (W : World) (p1 q1 p2 q2 : Pl) (h : IsPn W X3 p1 q1) (h' : IsPn W X3 p2 q2) => r5_same X3 X3 p1 q1 p2 q2 W h h' (by have := hX3.2.1; omega) (by have := hX3.2.1; have := hX3.1; omega) (by have := hX3.2.1; omega) (by have := hX3.2.1; have := hX3.1; omega)
  rw [Pn.same_self] at hs3
  clear h0 hL hg hD g1 g2 g3 g4 hdl hX1 hX2 hX3
  obtain ⟨A1, a1⟩ := p
  obtain ⟨A2, a2⟩ := q
  obtain ⟨B1, b1⟩ := p'
  obtain ⟨B2, b2⟩ := q'
  have hB := Below.refl w.heap.size w
  have x := Blk.new w 25 #[.string (bs D.data), .slice A1 D.cache.length a1, .int .i64 D.fuse, .bool D.off, .slice A2 D.bad.length a2]
  have xk := blk5 x
  have hB_1 := hB.alloc hB.size (.cells #[.string (bs D.data), .slice A1 D.cache.length a1, .int .i64 D.fuse, .bool D.off, .slice A2 D.bad.length a2] 25)
  have z := Blk.new (w.alloc (.cells #[.string (bs D.data), .slice A1 D.cache.length a1, .int .i64 D.fuse, .bool D.off, .slice A2 D.bad.length a2] 25)) 28 #[.slice B1 L.targets.length b1, .slice B2 L.data.length b2]
  simp only [World.size_alloc] at z
  have zk := blk2 z
  have hB_2 := hB_1.alloc hB_1.size (.cells #[.slice B1 L.targets.length b1, .slice B2 L.data.length b2] 28)
  have x_3 := x.alloc (.cells #[.slice B1 L.targets.length b1, .slice B2 L.data.length b2] 28)
  have xk_3 := blk5 x_3
  have y := Blk.new ((w.alloc (.cells #[.string (bs D.data), .slice A1 D.cache.length a1, .int .i64 D.fuse, .bool D.off, .slice A2 D.bad.length a2] 25)).alloc (.cells #[.slice B1 L.targets.length b1, .slice B2 L.data.length b2] 28)) 49 #[.int .i64 K, .int .i64 A]
  simp only [World.size_alloc] at y
  have yk := blk2 y
  have hB_4 := hB_2.alloc hB_2.size (.cells #[.int .i64 K, .int .i64 A] 49)
  have x_5 := x_3.alloc (.cells #[.int .i64 K, .int .i64 A] 49)
  have xk_5 := blk5 x_5
  have z_6 := z.alloc (.cells #[.int .i64 K, .int .i64 A] 49)
  have zk_6 := blk2 z_6
  go_enter Try.func8, Try.ntmps8
  go_wp2_with fail
  go_at_call 23
  refine ((hG _ hB_4)).mono ?_
  rintro e w1 ⟨rfl, hb1⟩
  replace hB := bt hB_4 hb1
  replace x := x_5.below hb1 x_5.lt
  replace xk := blk5 x
  replace z := z_6.below hb1 z_6.lt
  replace zk := blk2 z
  replace y := y.below hb1 y.lt
  replace yk := blk2 y
  clear hB_1 hB_2 xk_3 x_3 hB_4 xk_5 x_5 zk_6 z_6
  go_wp2_with fail
  go_at_call 32
  refine ((h1 _ hB)).mono ?_
  rintro e w2 ⟨⟨pa, qa, rfl, ia, oa⟩, hb2⟩
  replace hB := bt hB hb2
  replace x := x.below hb2 x.lt
  replace xk := blk5 x
  replace z := z.below hb2 z.lt
  replace zk := blk2 z
  replace y := y.below hb2 y.lt
  replace yk := blk2 y
  have ba := Blk.new w2 28 #[.slice pa.a X1.targets.length pa.c, .slice qa.a X1.data.length qa.c]
  have bak := blk2 ba
  have hB_7 := hB.alloc hB.size (.cells #[.slice pa.a X1.targets.length pa.c, .slice qa.a X1.data.length qa.c] 28)
  have x_8 := x.alloc (.cells #[.slice pa.a X1.targets.length pa.c, .slice qa.a X1.data.length qa.c] 28)
  have xk_8 := blk5 x_8
  have z_9 := z.alloc (.cells #[.slice pa.a X1.targets.length pa.c, .slice qa.a X1.data.length qa.c] 28)
  have zk_9 := blk2 z_9
  have y_10 := y.alloc (.cells #[.slice pa.a X1.targets.length pa.c, .slice qa.a X1.data.length qa.c] 28)
  have yk_10 := blk2 y_10
  have ia_11 := ia.below ((Below.refl _ _).alloc (Nat.le_refl _) (.cells #[.slice pa.a X1.targets.length pa.c, .slice qa.a X1.data.length qa.c] 28))
  go_wp2_with fail
  go_at_call 33
  refine ((h2 _ hB_7)).mono ?_
  rintro e w3 ⟨⟨pb, qb, rfl, ib, ob⟩, hb3⟩
  replace hB := bt hB_7 hb3
  replace x := x_8.below hb3 x_8.lt
  replace xk := blk5 x
  replace z := z_9.below hb3 z_9.lt
  replace zk := blk2 z
  replace y := y_10.below hb3 y_10.lt
  replace yk := blk2 y
  replace ia := ia_11.below hb3
  replace ba := ba.below hb3 ba.lt
  replace bak := blk2 ba
  clear hB_7 xk_8 x_8 zk_9 z_9 yk_10 y_10 ia_11
  have bb := Blk.new w3 28 #[.slice pb.a X1.targets.length pb.c, .slice qb.a X1.data.length qb.c]
  have bbk := blk2 bb
  have hB_12 := hB.alloc hB.size (.cells #[.slice pb.a X1.targets.length pb.c, .slice qb.a X1.data.length qb.c] 28)
  have x_13 := x.alloc (.cells #[.slice pb.a X1.targets.length pb.c, .slice qb.a X1.data.length qb.c] 28)
  have xk_13 := blk5 x_13
  have z_14 := z.alloc (.cells #[.slice pb.a X1.targets.length pb.c, .slice qb.a X1.data.length qb.c] 28)
  have zk_14 := blk2 z_14
  have y_15 := y.alloc (.cells #[.slice pb.a X1.targets.length pb.c, .slice qb.a X1.data.length qb.c] 28)
  have yk_15 := blk2 y_15
  have ia_16 := ia.below ((Below.refl _ _).alloc (Nat.le_refl _) (.cells #[.slice pb.a X1.targets.length pb.c, .slice qb.a X1.data.length qb.c] 28))
  have ba_17 := ba.alloc (.cells #[.slice pb.a X1.targets.length pb.c, .slice qb.a X1.data.length qb.c] 28)
  have bak_17 := blk2 ba_17
  have ib_18 := ib.below ((Below.refl _ _).alloc (Nat.le_refl _) (.cells #[.slice pb.a X1.targets.length pb.c, .slice qb.a X1.data.length qb.c] 28))
  go_wp2_with fail
  go_at_call 34
  refine ((h3 _ hB_12)).mono ?_
  rintro e w4 ⟨⟨pc, qc, rfl, ic, oc⟩, hb4⟩
  replace hB := bt hB_12 hb4
  replace x := x_13.below hb4 x_13.lt
  replace xk := blk5 x
  replace z := z_14.below hb4 z_14.lt
  replace zk := blk2 z
  replace y := y_15.below hb4 y_15.lt
  replace yk := blk2 y
  replace ia := ia_16.below hb4
  replace ba := ba_17.below hb4 ba_17.lt
  replace bak := blk2 ba
  replace ib := ib_18.below hb4
  replace bb := bb.below hb4 bb.lt
  replace bbk := blk2 bb
  clear hB_12 xk_13 x_13 zk_14 z_14 yk_15 y_15 ia_16 bak_17 ba_17 ib_18
  have bc := Blk.new w4 28 #[.slice pc.a X2.targets.length pc.c, .slice qc.a X2.data.length qc.c]
  have bck := blk2 bc
  have hB_19 := hB.alloc hB.size (.cells #[.slice pc.a X2.targets.length pc.c, .slice qc.a X2.data.length qc.c] 28)
  have x_20 := x.alloc (.cells #[.slice pc.a X2.targets.length pc.c, .slice qc.a X2.data.length qc.c] 28)
  have xk_20 := blk5 x_20
  have z_21 := z.alloc (.cells #[.slice pc.a X2.targets.length pc.c, .slice qc.a X2.data.length qc.c] 28)
  have zk_21 := blk2 z_21
  have y_22 := y.alloc (.cells #[.slice pc.a X2.targets.length pc.c, .slice qc.a X2.data.length qc.c] 28)
  have yk_22 := blk2 y_22
  have ia_23 := ia.below ((Below.refl _ _).alloc (Nat.le_refl _) (.cells #[.slice pc.a X2.targets.length pc.c, .slice qc.a X2.data.length qc.c] 28))
  have ba_24 := ba.alloc (.cells #[.slice pc.a X2.targets.length pc.c, .slice qc.a X2.data.length qc.c] 28)
  have bak_24 := blk2 ba_24
  have ib_25 := ib.below ((Below.refl _ _).alloc (Nat.le_refl _) (.cells #[.slice pc.a X2.targets.length pc.c, .slice qc.a X2.data.length qc.c] 28))
  have bb_26 := bb.alloc (.cells #[.slice pc.a X2.targets.length pc.c, .slice qc.a X2.data.length qc.c] 28)
  have bbk_26 := blk2 bb_26
  have ic_27 := ic.below ((Below.refl _ _).alloc (Nat.le_refl _) (.cells #[.slice pc.a X2.targets.length pc.c, .slice qc.a X2.data.length qc.c] 28))
  go_wp2_with fail
  go_at_call 35
  refine ((h4 _ hB_19)).mono ?_
  rintro e w5 ⟨⟨pd, qd, rfl, ir, od⟩, hb5⟩
  replace hB := bt hB_19 hb5
  replace x := x_20.below hb5 x_20.lt
  replace xk := blk5 x
  replace z := z_21.below hb5 z_21.lt
  replace zk := blk2 z
  replace y := y_22.below hb5 y_22.lt
  replace yk := blk2 y
  replace ia := ia_23.below hb5
  replace ba := ba_24.below hb5 ba_24.lt
  replace bak := blk2 ba
  replace ib := ib_25.below hb5
  replace bb := bb_26.below hb5 bb_26.lt
  replace bbk := blk2 bb
  replace ic := ic_27.below hb5
  replace bc := bc.below hb5 bc.lt
  replace bck := blk2 bc
  clear hB_19 xk_20 x_20 zk_21 z_21 yk_22 y_22 ia_23 bak_24 ba_24 ib_25 bbk_26 bb_26 ic_27
  have bd := Blk.new w5 28 #[.slice pd.a X2.targets.length pd.c, .slice qd.a X2.data.length qd.c]
  have bdk := blk2 bd
  have hB_28 := hB.alloc hB.size (.cells #[.slice pd.a X2.targets.length pd.c, .slice qd.a X2.data.length qd.c] 28)
  have x_29 := x.alloc (.cells #[.slice pd.a X2.targets.length pd.c, .slice qd.a X2.data.length qd.c] 28)
  have xk_29 := blk5 x_29
  have z_30 := z.alloc (.cells #[.slice pd.a X2.targets.length pd.c, .slice qd.a X2.data.length qd.c] 28)
  have zk_30 := blk2 z_30
  have y_31 := y.alloc (.cells #[.slice pd.a X2.targets.length pd.c, .slice qd.a X2.data.length qd.c] 28)
  have yk_31 := blk2 y_31
  have ia_32 := ia.below ((Below.refl _ _).alloc (Nat.le_refl _) (.cells #[.slice pd.a X2.targets.length pd.c, .slice qd.a X2.data.length qd.c] 28))
  have ba_33 := ba.alloc (.cells #[.slice pd.a X2.targets.length pd.c, .slice qd.a X2.data.length qd.c] 28)
  have bak_33 := blk2 ba_33
  have ib_34 := ib.below ((Below.refl _ _).alloc (Nat.le_refl _) (.cells #[.slice pd.a X2.targets.length pd.c, .slice qd.a X2.data.length qd.c] 28))
  have bb_35 := bb.alloc (.cells #[.slice pd.a X2.targets.length pd.c, .slice qd.a X2.data.length qd.c] 28)
  have bbk_35 := blk2 bb_35
  have ic_36 := ic.below ((Below.refl _ _).alloc (Nat.le_refl _) (.cells #[.slice pd.a X2.targets.length pd.c, .slice qd.a X2.data.length qd.c] 28))
  have bc_37 := bc.alloc (.cells #[.slice pd.a X2.targets.length pd.c, .slice qd.a X2.data.length qd.c] 28)
  have bck_37 := blk2 bc_37
  have ir_38 := ir.below ((Below.refl _ _).alloc (Nat.le_refl _) (.cells #[.slice pd.a X2.targets.length pd.c, .slice qd.a X2.data.length qd.c] 28))
  go_wp2_with fail
  go_at_call 36
  refine ((h5 _ hB_28)).mono ?_
  rintro e w6 ⟨⟨pe, qe, rfl, ie, oe⟩, hb6⟩
  replace hB := bt hB_28 hb6
  replace x := x_29.below hb6 x_29.lt
  replace xk := blk5 x
  replace z := z_30.below hb6 z_30.lt
  replace zk := blk2 z
  replace y := y_31.below hb6 y_31.lt
  replace yk := blk2 y
  replace ia := ia_32.below hb6
  replace ba := ba_33.below hb6 ba_33.lt
  replace bak := blk2 ba
  replace ib := ib_34.below hb6
  replace bb := bb_35.below hb6 bb_35.lt
  replace bbk := blk2 bb
  replace ic := ic_36.below hb6
  replace bc := bc_37.below hb6 bc_37.lt
  replace bck := blk2 bc
  replace ir := ir_38.below hb6
  replace bd := bd.below hb6 bd.lt
  replace bdk := blk2 bd
  clear hB_28 xk_29 x_29 zk_30 z_30 yk_31 y_31 ia_32 bak_33 ba_33 ib_34 bbk_35 bb_35 ic_36 bck_37 bc_37 ir_38
  have be := Blk.new w6 28 #[.slice pe.a X3.targets.length pe.c, .slice qe.a X3.data.length qe.c]
  have bek := blk2 be
  have hB_39 := hB.alloc hB.size (.cells #[.slice pe.a X3.targets.length pe.c, .slice qe.a X3.data.length qe.c] 28)
  have x_40 := x.alloc (.cells #[.slice pe.a X3.targets.length pe.c, .slice qe.a X3.data.length qe.c] 28)
  have xk_40 := blk5 x_40
  have z_41 := z.alloc (.cells #[.slice pe.a X3.targets.length pe.c, .slice qe.a X3.data.length qe.c] 28)
  have zk_41 := blk2 z_41
  have y_42 := y.alloc (.cells #[.slice pe.a X3.targets.length pe.c, .slice qe.a X3.data.length qe.c] 28)
  have yk_42 := blk2 y_42
  have ia_43 := ia.below ((Below.refl _ _).alloc (Nat.le_refl _) (.cells #[.slice pe.a X3.targets.length pe.c, .slice qe.a X3.data.length qe.c] 28))
  have ba_44 := ba.alloc (.cells #[.slice pe.a X3.targets.length pe.c, .slice qe.a X3.data.length qe.c] 28)
  have bak_44 := blk2 ba_44
  have ib_45 := ib.below ((Below.refl _ _).alloc (Nat.le_refl _) (.cells #[.slice pe.a X3.targets.length pe.c, .slice qe.a X3.data.length qe.c] 28))
  have bb_46 := bb.alloc (.cells #[.slice pe.a X3.targets.length pe.c, .slice qe.a X3.data.length qe.c] 28)
  have bbk_46 := blk2 bb_46
  have ic_47 := ic.below ((Below.refl _ _).alloc (Nat.le_refl _) (.cells #[.slice pe.a X3.targets.length pe.c, .slice qe.a X3.data.length qe.c] 28))
  have bc_48 := bc.alloc (.cells #[.slice pe.a X3.targets.length pe.c, .slice qe.a X3.data.length qe.c] 28)
  have bck_48 := blk2 bc_48
  have ir_49 := ir.below ((Below.refl _ _).alloc (Nat.le_refl _) (.cells #[.slice pe.a X3.targets.length pe.c, .slice qe.a X3.data.length qe.c] 28))
  have bd_50 := bd.alloc (.cells #[.slice pe.a X3.targets.length pe.c, .slice qe.a X3.data.length qe.c] 28)
  have bdk_50 := blk2 bd_50
  have ie_51 := ie.below ((Below.refl _ _).alloc (Nat.le_refl _) (.cells #[.slice pe.a X3.targets.length pe.c, .slice qe.a X3.data.length qe.c] 28))
  go_wp2_with fail
  go_at_call 37
  refine ((h6 _ hB_39)).mono ?_
  rintro e w7 ⟨⟨pf, qf, rfl, if_, of_⟩, hb7⟩
  replace hB := bt hB_39 hb7
  replace x := x_40.below hb7 x_40.lt
  replace xk := blk5 x
  replace z := z_41.below hb7 z_41.lt
  replace zk := blk2 z
  replace y := y_42.below hb7 y_42.lt
  replace yk := blk2 y
  replace ia := ia_43.below hb7
  replace ba := ba_44.below hb7 ba_44.lt
  replace bak := blk2 ba
  replace ib := ib_45.below hb7
  replace bb := bb_46.below hb7 bb_46.lt
  replace bbk := blk2 bb
  replace ic := ic_47.below hb7
  replace bc := bc_48.below hb7 bc_48.lt
  replace bck := blk2 bc
  replace ir := ir_49.below hb7
  replace bd := bd_50.below hb7 bd_50.lt
  replace bdk := blk2 bd
  replace ie := ie_51.below hb7
  replace be := be.below hb7 be.lt
  replace bek := blk2 be
  clear hB_39 xk_40 x_40 zk_41 z_41 yk_42 y_42 ia_43 bak_44 ba_44 ib_45 bbk_46 bb_46 ic_47 bck_48 bc_48 ir_49 bdk_50 bd_50 ie_51
  have bf := Blk.new w7 28 #[.slice pf.a X3.targets.length pf.c, .slice qf.a X3.data.length qf.c]
  have bfk := blk2 bf
  have hB_52 := hB.alloc hB.size (.cells #[.slice pf.a X3.targets.length pf.c, .slice qf.a X3.data.length qf.c] 28)
  have x_53 := x.alloc (.cells #[.slice pf.a X3.targets.length pf.c, .slice qf.a X3.data.length qf.c] 28)
  have xk_53 := blk5 x_53
  have z_54 := z.alloc (.cells #[.slice pf.a X3.targets.length pf.c, .slice qf.a X3.data.length qf.c] 28)
  have zk_54 := blk2 z_54
  have y_55 := y.alloc (.cells #[.slice pf.a X3.targets.length pf.c, .slice qf.a X3.data.length qf.c] 28)
  have yk_55 := blk2 y_55
  have ia_56 := ia.below ((Below.refl _ _).alloc (Nat.le_refl _) (.cells #[.slice pf.a X3.targets.length pf.c, .slice qf.a X3.data.length qf.c] 28))
  have ba_57 := ba.alloc (.cells #[.slice pf.a X3.targets.length pf.c, .slice qf.a X3.data.length qf.c] 28)
  have bak_57 := blk2 ba_57
  have ib_58 := ib.below ((Below.refl _ _).alloc (Nat.le_refl _) (.cells #[.slice pf.a X3.targets.length pf.c, .slice qf.a X3.data.length qf.c] 28))
  have bb_59 := bb.alloc (.cells #[.slice pf.a X3.targets.length pf.c, .slice qf.a X3.data.length qf.c] 28)
  have bbk_59 := blk2 bb_59
  have ic_60 := ic.below ((Below.refl _ _).alloc (Nat.le_refl _) (.cells #[.slice pf.a X3.targets.length pf.c, .slice qf.a X3.data.length qf.c] 28))
  have bc_61 := bc.alloc (.cells #[.slice pf.a X3.targets.length pf.c, .slice qf.a X3.data.length qf.c] 28)
  have bck_61 := blk2 bc_61
  have ir_62 := ir.below ((Below.refl _ _).alloc (Nat.le_refl _) (.cells #[.slice pf.a X3.targets.length pf.c, .slice qf.a X3.data.length qf.c] 28))
  have bd_63 := bd.alloc (.cells #[.slice pf.a X3.targets.length pf.c, .slice qf.a X3.data.length qf.c] 28)
  have bdk_63 := blk2 bd_63
  have ie_64 := ie.below ((Below.refl _ _).alloc (Nat.le_refl _) (.cells #[.slice pf.a X3.targets.length pf.c, .slice qf.a X3.data.length qf.c] 28))
  have be_65 := be.alloc (.cells #[.slice pf.a X3.targets.length pf.c, .slice qf.a X3.data.length qf.c] 28)
  have bek_65 := blk2 be_65
  have if__66 := if_.below ((Below.refl _ _).alloc (Nat.le_refl _) (.cells #[.slice pf.a X3.targets.length pf.c, .slice qf.a X3.data.length qf.c] 28))
  go_wp2_with fail
  go_at_call 16
  refine ((hs1 _ pa qa pb qb ia_56 ib_58)).mono ?_
  rintro e w8 ⟨rfl, hb8⟩
  replace hB := bt hB_52 hb8
  replace x := x_53.below hb8 x_53.lt
  replace xk := blk5 x
  replace z := z_54.below hb8 z_54.lt
  replace zk := blk2 z
  replace y := y_55.below hb8 y_55.lt
  replace yk := blk2 y
  replace ia := ia_56.below hb8
  replace ba := ba_57.below hb8 ba_57.lt
  replace bak := blk2 ba
  replace ib := ib_58.below hb8
  replace bb := bb_59.below hb8 bb_59.lt
  replace bbk := blk2 bb
  replace ic := ic_60.below hb8
  replace bc := bc_61.below hb8 bc_61.lt
  replace bck := blk2 bc
  replace ir := ir_62.below hb8
  replace bd := bd_63.below hb8 bd_63.lt
  replace bdk := blk2 bd
  replace ie := ie_64.below hb8
  replace be := be_65.below hb8 be_65.lt
  replace bek := blk2 be
  replace if_ := if__66.below hb8
  replace bf := bf.below hb8 bf.lt
  replace bfk := blk2 bf
  clear hB_52 xk_53 x_53 zk_54 z_54 yk_55 y_55 ia_56 bak_57 ba_57 ib_58 bbk_59 bb_59 ic_60 bck_61 bc_61 ir_62 bdk_63 bd_63 ie_64 bek_65 be_65 if__66
  go_wp2_with fail
  go_at_call 16
  refine ((hs2 _ pc qc pd qd ic ir)).mono ?_
  rintro e w9 ⟨rfl, hb9⟩
  replace hB := bt hB hb9
  replace x := x.below hb9 x.lt
  replace xk := blk5 x
  replace z := z.below hb9 z.lt
  replace zk := blk2 z
  replace y := y.below hb9 y.lt
  replace yk := blk2 y
  replace ia := ia.below hb9
  replace ba := ba.below hb9 ba.lt
  replace bak := blk2 ba
  replace ib := ib.below hb9
  replace bb := bb.below hb9 bb.lt
  replace bbk := blk2 bb
  replace ic := ic.below hb9
  replace bc := bc.below hb9 bc.lt
  replace bck := blk2 bc
  replace ir := ir.below hb9
  replace bd := bd.below hb9 bd.lt
  replace bdk := blk2 bd
  replace ie := ie.below hb9
  replace be := be.below hb9 be.lt
  replace bek := blk2 be
  replace if_ := if_.below hb9
  replace bf := bf.below hb9 bf.lt
  replace bfk := blk2 bf
  go_wp2_with fail
  go_at_call 16
  refine ((hs3 _ pe qe pf qf ie if_)).mono ?_
  rintro e w10 ⟨rfl, hb10⟩
  replace hB := bt hB hb10
  replace x := x.below hb10 x.lt
  replace xk := blk5 x
  replace z := z.below hb10 z.lt
  replace zk := blk2 z
  replace y := y.below hb10 y.lt
  replace yk := blk2 y
  replace ia := ia.below hb10
  replace ba := ba.below hb10 ba.lt
  replace bak := blk2 ba
  replace ib := ib.below hb10
  replace bb := bb.below hb10 bb.lt
  replace bbk := blk2 bb
  replace ic := ic.below hb10
  replace bc := bc.below hb10 bc.lt
  replace bck := blk2 bc
  replace ir := ir.below hb10
  replace bd := bd.below hb10 bd.lt
  replace bdk := blk2 bd
  replace ie := ie.below hb10
  replace be := be.below hb10 be.lt
  replace bek := blk2 be
  replace if_ := if_.below hb10
  replace bf := bf.below hb10 bf.lt
  replace bfk := blk2 bf
  go_wp2_with fail
  go_at_call 24
  refine ((awake11 _)).mono ?_
  rintro e w11 ⟨rfl, hb11⟩
  replace hB := bt hB hb11
  replace x := x.below hb11 x.lt
  replace xk := blk5 x
  replace z := z.below hb11 z.lt
  replace zk := blk2 z
  replace y := y.below hb11 y.lt
  replace yk := blk2 y
  replace ia := ia.below hb11
  replace ba := ba.below hb11 ba.lt
  replace bak := blk2 ba
  replace ib := ib.below hb11
  replace bb := bb.below hb11 bb.lt
  replace bbk := blk2 bb
  replace ic := ic.below hb11
  replace bc := bc.below hb11 bc.lt
  replace bck := blk2 bc
  replace ir := ir.below hb11
  replace bd := bd.below hb11 bd.lt
  replace bdk := blk2 bd
  replace ie := ie.below hb11
  replace be := be.below hb11 be.lt
  replace bek := blk2 be
  replace if_ := if_.below hb11
  replace bf := bf.below hb11 bf.lt
  replace bfk := blk2 bf
  go_wp2_with fail
  go_ret
  exact ⟨rfl, hB⟩
theorem walk (w : World) (D : Dk) (p q : Pl) (hD : IsDk0 w D p q ∧ D.cache.length * Try.prog.bytesOf 118 ≤ reachBytes ∧ D.bad.length * Try.prog.bytesOf 3 ≤ reachBytes) (L : Pn) (p' q' : Pl) (hL : IsPn w L p' q') (t : Int) (wt : (Lit.int .i64 t).wf = true) (i : Int) (wi : (Lit.int .i64 i).wf = true) (o : Int) (wo : (Lit.int .i64 o).wf = true) (K A : Int) (wK : okInt K ∧ okInt A) :
    Calls Try.prog 8 #[dval D p q, pval L p' q', .int .i64 t, .int .i64 i, .int .i64 o, eval2 K A] w fun e w' => e = .returned (.bool true) ∧ Below w.heap.size w w' := by
  obtain ⟨hD, c1, b1⟩ := hD
  rw [show Try.prog.bytesOf 3 = 8 by kernel_rfl] at b1
  unfold reachBytes at b1
  cases hg : good D L with
  | false => exact walk_no D L p q p' q' t i o K A w hD (by omega) hL hg
  | true => exact walk_ok D L p q p' q' t i o K A w hD (by omega) hL hg
/-! ### The row -/
theorem own : ownKnob Try.prog.godebug = none := by kernel_rfl
set_option maxRecDepth 100000 in
theorem lifted (os : Os) (started : os.Started) (H : Type) (enc : TypeId × Value → H) :
    ReturnsInHanded {} Try.checked os 8 .any (Rows.tableSetsSpec.pre6 enc Try.prog Try.f8 Rows.tableSetsRow.domain false) (Rows.tableSetsSpec.post enc Try.prog Try.f8 false true false false) := by
  refine returnsInHanded_of_change_sized (C := Try.checked) own started (by kernel_rfl) Try.func8
    (ChangeSpec.witness6 (enc := enc) (C := Try.checked) false ⟨#[], #[.agg #[.string ByteArray.empty, .slice none 0 0, .int .i64 0, .bool false, .slice none 0 0], .agg #[.slice none 0 0, .slice none 0 0], .int .i64 0, .int .i64 0, .int .i64 0, .agg #[.int .i64 0, .int .i64 0]], []⟩ 8 (by kernel_rfl) (by kernel_rfl) (by kernel_rfl) (by kernel_rfl)) ?_
  intro W base args ds gs before hval0 hW hcnd hsz0 _
  have hval : ∀ (j : Nat) t v, Try.f8.params[j]? = some t → args[j]? = some v → Value.okWide Try.prog W .any base t v := hval0
  have hW' := hW
  obtain ⟨p, q, hA0, hV, rfl, hfz, hnd⟩ := hW
  have hA : DataW.TrodAll enc Try.prog W 0 (fun _ => true) true Try.f8.params.toList args.toList ds p := hA0
  have hAk := hA
  have hsz : (DataW.weightsEach Try.prog (Try.f8.params.toList ++ Rows.tableSetsSpec.plain.varTypes Try.prog) (ds ++ gs)).all (· ≤ reachBytes) = true := hsz0
  rw [Try.params8] at hA hval hsz
  obtain ⟨v0, vs0, d0, ds0, p0, q0, hargs, rfl, rfl, h0, r0⟩ := trodAll_cons hA
  obtain ⟨v1, vs1, d1, ds1, p1, q1, rfl, rfl, rfl, h1, r1⟩ := trodAll_cons r0
  obtain ⟨v2, vs2, d2, ds2, p2, q2, rfl, rfl, rfl, h2, r2⟩ := trodAll_cons r1
  obtain ⟨v3, vs3, d3, ds3, p3, q3, rfl, rfl, rfl, h3, r3⟩ := trodAll_cons r2
  obtain ⟨v4, vs4, d4, ds4, p4, q4, rfl, rfl, rfl, h4, r4⟩ := trodAll_cons r3
  obtain ⟨v5, vs5, d5, ds5, p5, q5, rfl, rfl, rfl, h5, r5⟩ := trodAll_cons r4
  obtain ⟨rfl, rfl, rfl⟩ := trodAll_nil r5
  obtain rfl : args = #[v0, v1, v2, v3, v4, v5] := by cases args; simp_all
  obtain ⟨rfl, rfl⟩ := trodVars_none hV
  obtain ⟨D0, P0, Q0, rfl, w0⟩ := open_dk_sized Try.underlying25 (by kernel_rfl) (by kernel_rfl) Try.underlying9 Try.underlying22 Try.underlying3 Try.underlying4 Try.underlying23 Try.underlying118 (by kernel_rfl) (by kernel_rfl) Try.underlying3 Try.underlying9 Try.underlying3 (by kernel_rfl) (hval 0 25 v0 rfl rfl) h0 (weights_each hsz (j := 0) rfl rfl)
  obtain ⟨D1, P1, Q1, rfl, w1⟩ := open_plan Try.underlying28 (by kernel_rfl) (by kernel_rfl) Try.underlying23 Try.underlying26 Try.underlying3 (by kernel_rfl) Try.underlying9 (by kernel_rfl) (hval 1 28 v1 rfl rfl) h1
  obtain ⟨a2, rfl, rfl, rfl, w2⟩ := open_int Try.underlying3 (hval 2 3 v2 rfl rfl) h2
  obtain ⟨a3, rfl, rfl, rfl, w3⟩ := open_int Try.underlying3 (hval 3 3 v3 rfl rfl) h3
  obtain ⟨a4, rfl, rfl, rfl, w4⟩ := open_int Try.underlying3 (hval 4 3 v4 rfl rfl) h4
  obtain ⟨a5, b5, rfl, w5⟩ := open_pair Try.underlying49 (by kernel_rfl) (by kernel_rfl) Try.underlying3 Try.underlying3 (hval 5 49 v5 rfl rfl) h5
  clear hA0 hval0
  simp only [List.append_nil] at hW'
  refine (walk W D0 P0 Q0 w0 D1 P1 Q1 w1 a2 w2 a3 w3 a4 w4 a5 b5 w5).mono fun e W' ⟨he, hb⟩ => ?_
  subst he
  exact ⟨_, rfl, post_of_below (pa := _) (pv := []) hW' (fun _ _ _ => (trodAll_cons_mk (shut_bool Try.underlying4 _) trodAll_mk0)) (fun sp hsp => trodAll_stays (by kernel_rfl) hb (by kernel_rfl) hAk (fun x hx => hW'.lt x (by simpa using hx)) (fun x hx => hsp x (by simpa using hx))) (fun _ _ => rfl) (by simp) hb (ok_one (by kernel_rfl) rfl (okWide_bool_mk Try.underlying4 _))⟩
theorem over_ : Rows.tableSetsRow.holds Try.pinned (OpenSpec.ofChange Rows.tableSetsSpec) :=
  OpenClaim.holds_of_wide 8 Try.f8 rfl rfl rfl rfl rfl rfl rfl ⟨rfl, rfl, rfl, rfl, rfl⟩ rfl rfl rfl rfl rfl (by kernel_rfl) Try.func8 (by kernel_rfl)
    (of_decide_eq_true (by kernel_rfl)) (by unfold Func.isWrapper; first | (rw [if_pos (by decide +kernel)]; kernel_rfl) | (rw [if_neg (by decide +kernel)]; exact ⟨rfl, rfl⟩))
    (fun os started H enc _ => lifted os started H enc)
/-- The statement. -/
theorem proved : Rows.TableSetsSaid := over_
#print axioms proved
end Go.Proofs.Ytlajbmmhgflabaa.tableSets
