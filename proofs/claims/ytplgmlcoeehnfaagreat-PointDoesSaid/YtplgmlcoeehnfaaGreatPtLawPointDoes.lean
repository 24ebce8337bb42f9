/- PointDoes: plans in which a second table is the guest's alone, and in which a cluster is somewhere else, are the document's: any device, any plan, any geometry, any cluster, any entry. No condition. -/
import Derived.Test.YtplgmlcoeehnfaaGreatPtLaw12a
import Derived.Test.YtplgmlcoeehnfaaGreatPtPointsB
import Derived.Test.YtplgmlcoeehnfaaGreatPtPoint7
import Derived.Test.YtplgmlcoeehnfaaGreatPtGood3
import Derived.Test.YtplgmlcoeehnfaaGreatPtOpens
set_option linter.unusedVariables false
namespace Go.Proofs.YtplgmlcoeehnfaaGreat.pointDoes
open Go.RowKit Go.Shelf Go.WideShapes Go.ChangeShapes Go.ChangeAt
open Go.ChangeMaps (open_string shut_string)
attribute [local go_sem] bs_mk bs_append bs_extract bs_size bs_toList bs_get

set_option maxRecDepth 100000 in
theorem walk_no (D : Dk) (L : Pn) (p q p' q' : Pl) (g h u K A : Int) (w : World) (h0 : IsDk0 w D p q) (hbl : D.bad.length ≤ 17592186044416) (hL : IsPn w L p' q') (hg : (good D L && geomOk g h) = false) :
    Calls Tryz.prog 4 #[dval D p q, pval L p' q', gval g h, .int .i64 u, eval2 K A] w fun e w' => e = .returned (.bool true) ∧ Below w.heap.size w w' := by
  have hG := fun (W : World) (hb : Below w.heap.size w W) => good12 D L p q p' q' g h W (h0.below hb) (hL.below hb) hbl
  rw [hg] at hG
  clear h0 hL hg
  obtain ⟨A1, a1⟩ := p
  obtain ⟨A2, a2⟩ := q
  obtain ⟨B1, b1⟩ := p'
  obtain ⟨B2, b2⟩ := q'
  have hB := Below.refl w.heap.size w
  have x := Blk.new w 25 #[.string (bs D.data), .slice A1 D.cache.length a1, .int .i64 D.fuse, .bool D.off, .slice A2 D.bad.length a2]
  have xk := blk5 x
  have hB_1 := hB.alloc hB.size (.cells #[.string (bs D.data), .slice A1 D.cache.length a1, .int .i64 D.fuse, .bool D.off, .slice A2 D.bad.length a2] 25)
  have z := Blk.new (w.alloc (.cells #[.string (bs D.data), .slice A1 D.cache.length a1, .int .i64 D.fuse, .bool D.off, .slice A2 D.bad.length a2] 25)) 28 #[.slice B1 L.targets.length b1, .slice B2 L.data.length b2]
  simp only [World.size_alloc] at z
  have zk := blk2 z
  have hB_2 := hB_1.alloc hB_1.size (.cells #[.slice B1 L.targets.length b1, .slice B2 L.data.length b2] 28)
  have x_3 := x.alloc (.cells #[.slice B1 L.targets.length b1, .slice B2 L.data.length b2] 28)
  have xk_3 := blk5 x_3
  have y := Blk.new ((w.alloc (.cells #[.string (bs D.data), .slice A1 D.cache.length a1, .int .i64 D.fuse, .bool D.off, .slice A2 D.bad.length a2] 25)).alloc (.cells #[.slice B1 L.targets.length b1, .slice B2 L.data.length b2] 28)) 30 #[.int .i64 g, .int .i64 h]
  simp only [World.size_alloc] at y
  have yk := blk2 y
  have hB_4 := hB_2.alloc hB_2.size (.cells #[.int .i64 g, .int .i64 h] 30)
  have x_5 := x_3.alloc (.cells #[.int .i64 g, .int .i64 h] 30)
  have xk_5 := blk5 x_5
  have z_6 := z.alloc (.cells #[.int .i64 g, .int .i64 h] 30)
  have zk_6 := blk2 z_6
  have v := Blk.new (((w.alloc (.cells #[.string (bs D.data), .slice A1 D.cache.length a1, .int .i64 D.fuse, .bool D.off, .slice A2 D.bad.length a2] 25)).alloc (.cells #[.slice B1 L.targets.length b1, .slice B2 L.data.length b2] 28)).alloc (.cells #[.int .i64 g, .int .i64 h] 30)) 32 #[.int .i64 K, .int .i64 A]
  simp only [World.size_alloc] at v
  have vk := blk2 v
  have hB_7 := hB_4.alloc hB_4.size (.cells #[.int .i64 K, .int .i64 A] 32)
  have x_8 := x_5.alloc (.cells #[.int .i64 K, .int .i64 A] 32)
  have xk_8 := blk5 x_8
  have z_9 := z_6.alloc (.cells #[.int .i64 K, .int .i64 A] 32)
  have zk_9 := blk2 z_9
  have y_10 := y.alloc (.cells #[.int .i64 K, .int .i64 A] 32)
  have yk_10 := blk2 y_10
  go_enter Tryz.func4, Tryz.ntmps4
  go_wp2_with fail
  go_at_call 13
  refine ((hG _ hB_7)).mono ?_
  rintro e w1 ⟨rfl, hb1⟩
  replace hB := bt hB_7 hb1
  replace x := x_8.below hb1 x_8.lt
  replace xk := blk5 x
  replace z := z_9.below hb1 z_9.lt
  replace zk := blk2 z
  replace y := y_10.below hb1 y_10.lt
  replace yk := blk2 y
  replace v := v.below hb1 v.lt
  replace vk := blk2 v
  clear hB_1 hB_2 xk_3 x_3 hB_4 xk_5 x_5 zk_6 z_6 hB_7 xk_8 x_8 zk_9 z_9 yk_10 y_10
  go_wp2_with fail
  go_at_call 14
  refine ((awake12 _)).mono ?_
  rintro e w2 ⟨rfl, hb2⟩
  replace hB := bt hB hb2
  replace x := x.below hb2 x.lt
  replace xk := blk5 x
  replace z := z.below hb2 z.lt
  replace zk := blk2 z
  replace y := y.below hb2 y.lt
  replace yk := blk2 y
  replace v := v.below hb2 v.lt
  replace vk := blk2 v
  go_wp2_with fail
  go_ret
  exact ⟨rfl, hB⟩

set_option maxRecDepth 100000 in
set_option maxHeartbeats 2000000 in
theorem walk_ok (D : Dk) (L : Pn) (p q p' q' : Pl) (g : Int) (h : Nat) (hh : h ≤ 256) (hg64 : g ≤ 64) (u K A : Int) (hu : -9223372036854775808 ≤ u ∧ u ≤ 9223372036854775807) (w : World) (h0 : IsDk0 w D p q) (hbl : D.bad.length ≤ 17592186044416) (hL : IsPn w L p' q') (hgd : good D L = true) (hgo : geomOk g h = true) :
    Calls Tryz.prog 4 #[dval D p q, pval L p' q', gval g h, .int .i64 u, eval2 K A] w fun e w' => e = .returned (.bool true) ∧ Below w.heap.size w w' := by
  obtain ⟨g1, g2, g3, g4⟩ := good_iff.1 hgd
  have hD := h0.full (by omega) hbl (by omega)
  have hG := fun (W : World) (hb : Below w.heap.size w W) => good12 D L p q p' q' g h W (h0.below hb) (hL.below hb) hbl
  rw [hgd, hgo] at hG
  have hdl := (Dk.fit_parts g3).2.2.1
  have h1 := fun (W : World) (hb : Below w.heap.size w W) => p_own D L p q p' q' W (hD.below hb) (hL.below hb) g3 g4 g h hh hg64 u
  have h2 := fun (W : World) (hb : Below w.heap.size w W) => r12_own D L p q p' q' W (hD.below hb) (hL.below hb) g3 g4 g h hh hg64 u
  have h3 := fun (W : World) (hb : Below w.heap.size w W) => p_point D L p q p' q' W (hD.below hb) (hL.below hb) g3 g4 g h hh hg64 u K A hu
  have h4 := fun (W : World) (hb : Below w.heap.size w W) => r12_point D L p q p' q' W (hD.below hb) (hL.below hb) g3 g4 g h hh hg64 u K A hu
  have hX1 := Pn.ptOwn_fit (D := D) (L := L) g3 g4 g h u
  have hX2 := Pn.ptPoint_fit (D := D) (L := L) g3 g4 g h u K A
  generalize Pn.ptOwn D L g h u = S1 at h1 h2 hX1
  generalize Pn.ptPoint D L g h u K A = S2 at h3 h4 hX2
  obtain ⟨X1, i1, e1⟩ := S1
  obtain ⟨X2, e2⟩ := S2
  simp only at h1 hX1 hX2
  have hs1 := fun (W : World) (p1 q1 p2 q2 : Pl) (h : IsPn W X1 p1 q1) (h' : IsPn W X1 p2 q2) => r5_same X1 X1 p1 q1 p2 q2 W h h' (by have := hX1.2.1; omega) (by have := hX1.2.1; have := hX1.1; omega) (by have := hX1.2.1; omega) (by have := hX1.2.1; have := hX1.1; omega)
  rw [Pn.same_self] at hs1
  have hs2 := fun (W : World) (p1 q1 p2 q2 : Pl) (h : IsPn W X2 p1 q1) (h' : IsPn W X2 p2 q2) => r5_same X2 X2 p1 q1 p2 q2 W h h' (by have := hX2.2.1; omega) (by have := hX2.2.1; have := hX2.1; omega) (by have := hX2.2.1; omega) (by have := hX2.2.1; have := hX2.1; omega)
  rw [Pn.same_self] at hs2
  clear h0 hL hgd hgo hD g1 g2 g3 g4 hdl hX1 hX2 hu
  obtain ⟨A1, a1⟩ := p
  obtain ⟨A2, a2⟩ := q
  obtain ⟨B1, b1⟩ := p'
  obtain ⟨B2, b2⟩ := q'
  have hB := Below.refl w.heap.size w
  have x := Blk.new w 25 #[.string (bs D.data), .slice A1 D.cache.length a1, .int .i64 D.fuse, .bool D.off, .slice A2 D.bad.length a2]
  have xk := blk5 x
  have hB_1 := hB.alloc hB.size (.cells #[.string (bs D.data), .slice A1 D.cache.length a1, .int .i64 D.fuse, .bool D.off, .slice A2 D.bad.length a2] 25)
  have z := Blk.new (w.alloc (.cells #[.string (bs D.data), .slice A1 D.cache.length a1, .int .i64 D.fuse, .bool D.off, .slice A2 D.bad.length a2] 25)) 28 #[.slice B1 L.targets.length b1, .slice B2 L.data.length b2]
  simp only [World.size_alloc] at z
  have zk := blk2 z
  have hB_2 := hB_1.alloc hB_1.size (.cells #[.slice B1 L.targets.length b1, .slice B2 L.data.length b2] 28)
  have x_3 := x.alloc (.cells #[.slice B1 L.targets.length b1, .slice B2 L.data.length b2] 28)
  have xk_3 := blk5 x_3
  have y := Blk.new ((w.alloc (.cells #[.string (bs D.data), .slice A1 D.cache.length a1, .int .i64 D.fuse, .bool D.off, .slice A2 D.bad.length a2] 25)).alloc (.cells #[.slice B1 L.targets.length b1, .slice B2 L.data.length b2] 28)) 30 #[.int .i64 g, .int .i64 h]
  simp only [World.size_alloc] at y
  have yk := blk2 y
  have hB_4 := hB_2.alloc hB_2.size (.cells #[.int .i64 g, .int .i64 h] 30)
  have x_5 := x_3.alloc (.cells #[.int .i64 g, .int .i64 h] 30)
  have xk_5 := blk5 x_5
  have z_6 := z.alloc (.cells #[.int .i64 g, .int .i64 h] 30)
  have zk_6 := blk2 z_6
  have v := Blk.new (((w.alloc (.cells #[.string (bs D.data), .slice A1 D.cache.length a1, .int .i64 D.fuse, .bool D.off, .slice A2 D.bad.length a2] 25)).alloc (.cells #[.slice B1 L.targets.length b1, .slice B2 L.data.length b2] 28)).alloc (.cells #[.int .i64 g, .int .i64 h] 30)) 32 #[.int .i64 K, .int .i64 A]
  simp only [World.size_alloc] at v
  have vk := blk2 v
  have hB_7 := hB_4.alloc hB_4.size (.cells #[.int .i64 K, .int .i64 A] 32)
  have x_8 := x_5.alloc (.cells #[.int .i64 K, .int .i64 A] 32)
  have xk_8 := blk5 x_8
  have z_9 := z_6.alloc (.cells #[.int .i64 K, .int .i64 A] 32)
  have zk_9 := blk2 z_9
  have y_10 := y.alloc (.cells #[.int .i64 K, .int .i64 A] 32)
  have yk_10 := blk2 y_10
  go_enter Tryz.func4, Tryz.ntmps4
  go_wp2_with fail
  go_at_call 13
  refine ((hG _ hB_7)).mono ?_
  rintro e w1 ⟨rfl, hb1⟩
  replace hB := bt hB_7 hb1
  replace x := x_8.below hb1 x_8.lt
  replace xk := blk5 x
  replace z := z_9.below hb1 z_9.lt
  replace zk := blk2 z
  replace y := y_10.below hb1 y_10.lt
  replace yk := blk2 y
  replace v := v.below hb1 v.lt
  replace vk := blk2 v
  clear hB_1 hB_2 xk_3 x_3 hB_4 xk_5 x_5 zk_6 z_6 hB_7 xk_8 x_8 zk_9 z_9 yk_10 y_10
  go_wp2_with fail
  go_at_call 22
  refine ((h1 _ hB)).mono ?_
  rintro e w2 ⟨pa, qa, rfl, ia, oa, hb2⟩
  replace hB := bt hB hb2
  replace x := x.below hb2 x.lt
  replace xk := blk5 x
  replace z := z.below hb2 z.lt
  replace zk := blk2 z
  replace y := y.below hb2 y.lt
  replace yk := blk2 y
  replace v := v.below hb2 v.lt
  replace vk := blk2 v
  have bia := Blk.new w2 28 #[.slice pa.a X1.targets.length pa.c, .slice qa.a X1.data.length qa.c]
  have biak := blk2 bia
  have hB_11 := hB.alloc hB.size (.cells #[.slice pa.a X1.targets.length pa.c, .slice qa.a X1.data.length qa.c] 28)
  have x_12 := x.alloc (.cells #[.slice pa.a X1.targets.length pa.c, .slice qa.a X1.data.length qa.c] 28)
  have xk_12 := blk5 x_12
  have z_13 := z.alloc (.cells #[.slice pa.a X1.targets.length pa.c, .slice qa.a X1.data.length qa.c] 28)
  have zk_13 := blk2 z_13
  have y_14 := y.alloc (.cells #[.slice pa.a X1.targets.length pa.c, .slice qa.a X1.data.length qa.c] 28)
  have yk_14 := blk2 y_14
  have v_15 := v.alloc (.cells #[.slice pa.a X1.targets.length pa.c, .slice qa.a X1.data.length qa.c] 28)
  have vk_15 := blk2 v_15
  have ia_16 := ia.below ((Below.refl _ _).alloc (Nat.le_refl _) (.cells #[.slice pa.a X1.targets.length pa.c, .slice qa.a X1.data.length qa.c] 28))
  go_wp2_with fail
  go_at_call 23
  refine ((h2 _ hB_11)).mono ?_
  rintro e w3 ⟨⟨pb, qb, rfl, ib, ob⟩, hb3⟩
  replace hB := bt hB_11 hb3
  replace x := x_12.below hb3 x_12.lt
  replace xk := blk5 x
  replace z := z_13.below hb3 z_13.lt
  replace zk := blk2 z
  replace y := y_14.below hb3 y_14.lt
  replace yk := blk2 y
  replace v := v_15.below hb3 v_15.lt
  replace vk := blk2 v
  replace ia := ia_16.below hb3
  replace bia := bia.below hb3 bia.lt
  replace biak := blk2 bia
  clear hB_11 xk_12 x_12 zk_13 z_13 yk_14 y_14 vk_15 v_15 ia_16
  have bib := Blk.new w3 28 #[.slice pb.a X1.targets.length pb.c, .slice qb.a X1.data.length qb.c]
  have bibk := blk2 bib
  have hB_17 := hB.alloc hB.size (.cells #[.slice pb.a X1.targets.length pb.c, .slice qb.a X1.data.length qb.c] 28)
  have x_18 := x.alloc (.cells #[.slice pb.a X1.targets.length pb.c, .slice qb.a X1.data.length qb.c] 28)
  have xk_18 := blk5 x_18
  have z_19 := z.alloc (.cells #[.slice pb.a X1.targets.length pb.c, .slice qb.a X1.data.length qb.c] 28)
  have zk_19 := blk2 z_19
  have y_20 := y.alloc (.cells #[.slice pb.a X1.targets.length pb.c, .slice qb.a X1.data.length qb.c] 28)
  have yk_20 := blk2 y_20
  have v_21 := v.alloc (.cells #[.slice pb.a X1.targets.length pb.c, .slice qb.a X1.data.length qb.c] 28)
  have vk_21 := blk2 v_21
  have ia_22 := ia.below ((Below.refl _ _).alloc (Nat.le_refl _) (.cells #[.slice pb.a X1.targets.length pb.c, .slice qb.a X1.data.length qb.c] 28))
  have bia_23 := bia.alloc (.cells #[.slice pb.a X1.targets.length pb.c, .slice qb.a X1.data.length qb.c] 28)
  have biak_23 := blk2 bia_23
  have ib_24 := ib.below ((Below.refl _ _).alloc (Nat.le_refl _) (.cells #[.slice pb.a X1.targets.length pb.c, .slice qb.a X1.data.length qb.c] 28))
  go_wp2_with fail
  go_at_call 17
  refine ((h3 _ hB_17)).mono ?_
  rintro e w4 ⟨⟨pc, qc, rfl, ic, oc⟩, hb4⟩
  replace hB := bt hB_17 hb4
  replace x := x_18.below hb4 x_18.lt
  replace xk := blk5 x
  replace z := z_19.below hb4 z_19.lt
  replace zk := blk2 z
  replace y := y_20.below hb4 y_20.lt
  replace yk := blk2 y
  replace v := v_21.below hb4 v_21.lt
  replace vk := blk2 v
  replace ia := ia_22.below hb4
  replace bia := bia_23.below hb4 bia_23.lt
  replace biak := blk2 bia
  replace ib := ib_24.below hb4
  replace bib := bib.below hb4 bib.lt
  replace bibk := blk2 bib
  clear hB_17 xk_18 x_18 zk_19 z_19 yk_20 y_20 vk_21 v_21 ia_22 biak_23 bia_23 ib_24
  have bic := Blk.new w4 28 #[.slice pc.a X2.targets.length pc.c, .slice qc.a X2.data.length qc.c]
  have bick := blk2 bic
  have hB_25 := hB.alloc hB.size (.cells #[.slice pc.a X2.targets.length pc.c, .slice qc.a X2.data.length qc.c] 28)
  have x_26 := x.alloc (.cells #[.slice pc.a X2.targets.length pc.c, .slice qc.a X2.data.length qc.c] 28)
  have xk_26 := blk5 x_26
  have z_27 := z.alloc (.cells #[.slice pc.a X2.targets.length pc.c, .slice qc.a X2.data.length qc.c] 28)
  have zk_27 := blk2 z_27
  have y_28 := y.alloc (.cells #[.slice pc.a X2.targets.length pc.c, .slice qc.a X2.data.length qc.c] 28)
  have yk_28 := blk2 y_28
  have v_29 := v.alloc (.cells #[.slice pc.a X2.targets.length pc.c, .slice qc.a X2.data.length qc.c] 28)
  have vk_29 := blk2 v_29
  have ia_30 := ia.below ((Below.refl _ _).alloc (Nat.le_refl _) (.cells #[.slice pc.a X2.targets.length pc.c, .slice qc.a X2.data.length qc.c] 28))
  have bia_31 := bia.alloc (.cells #[.slice pc.a X2.targets.length pc.c, .slice qc.a X2.data.length qc.c] 28)
  have biak_31 := blk2 bia_31
  have ib_32 := ib.below ((Below.refl _ _).alloc (Nat.le_refl _) (.cells #[.slice pc.a X2.targets.length pc.c, .slice qc.a X2.data.length qc.c] 28))
  have bib_33 := bib.alloc (.cells #[.slice pc.a X2.targets.length pc.c, .slice qc.a X2.data.length qc.c] 28)
  have bibk_33 := blk2 bib_33
  have ic_34 := ic.below ((Below.refl _ _).alloc (Nat.le_refl _) (.cells #[.slice pc.a X2.targets.length pc.c, .slice qc.a X2.data.length qc.c] 28))
  go_wp2_with fail
  go_at_call 24
  refine ((h4 _ hB_25)).mono ?_
  rintro e w5 ⟨⟨pd, qd, rfl, ir, od⟩, hb5⟩
  replace hB := bt hB_25 hb5
  replace x := x_26.below hb5 x_26.lt
  replace xk := blk5 x
  replace z := z_27.below hb5 z_27.lt
  replace zk := blk2 z
  replace y := y_28.below hb5 y_28.lt
  replace yk := blk2 y
  replace v := v_29.below hb5 v_29.lt
  replace vk := blk2 v
  replace ia := ia_30.below hb5
  replace bia := bia_31.below hb5 bia_31.lt
  replace biak := blk2 bia
  replace ib := ib_32.below hb5
  replace bib := bib_33.below hb5 bib_33.lt
  replace bibk := blk2 bib
  replace ic := ic_34.below hb5
  replace bic := bic.below hb5 bic.lt
  replace bick := blk2 bic
  clear hB_25 xk_26 x_26 zk_27 z_27 yk_28 y_28 vk_29 v_29 ia_30 biak_31 bia_31 ib_32 bibk_33 bib_33 ic_34
  have bir := Blk.new w5 28 #[.slice pd.a X2.targets.length pd.c, .slice qd.a X2.data.length qd.c]
  have birk := blk2 bir
  have hB_35 := hB.alloc hB.size (.cells #[.slice pd.a X2.targets.length pd.c, .slice qd.a X2.data.length qd.c] 28)
  have x_36 := x.alloc (.cells #[.slice pd.a X2.targets.length pd.c, .slice qd.a X2.data.length qd.c] 28)
  have xk_36 := blk5 x_36
  have z_37 := z.alloc (.cells #[.slice pd.a X2.targets.length pd.c, .slice qd.a X2.data.length qd.c] 28)
  have zk_37 := blk2 z_37
  have y_38 := y.alloc (.cells #[.slice pd.a X2.targets.length pd.c, .slice qd.a X2.data.length qd.c] 28)
  have yk_38 := blk2 y_38
  have v_39 := v.alloc (.cells #[.slice pd.a X2.targets.length pd.c, .slice qd.a X2.data.length qd.c] 28)
  have vk_39 := blk2 v_39
  have ia_40 := ia.below ((Below.refl _ _).alloc (Nat.le_refl _) (.cells #[.slice pd.a X2.targets.length pd.c, .slice qd.a X2.data.length qd.c] 28))
  have bia_41 := bia.alloc (.cells #[.slice pd.a X2.targets.length pd.c, .slice qd.a X2.data.length qd.c] 28)
  have biak_41 := blk2 bia_41
  have ib_42 := ib.below ((Below.refl _ _).alloc (Nat.le_refl _) (.cells #[.slice pd.a X2.targets.length pd.c, .slice qd.a X2.data.length qd.c] 28))
  have bib_43 := bib.alloc (.cells #[.slice pd.a X2.targets.length pd.c, .slice qd.a X2.data.length qd.c] 28)
  have bibk_43 := blk2 bib_43
  have ic_44 := ic.below ((Below.refl _ _).alloc (Nat.le_refl _) (.cells #[.slice pd.a X2.targets.length pd.c, .slice qd.a X2.data.length qd.c] 28))
  have bic_45 := bic.alloc (.cells #[.slice pd.a X2.targets.length pd.c, .slice qd.a X2.data.length qd.c] 28)
  have bick_45 := blk2 bic_45
  have ir_46 := ir.below ((Below.refl _ _).alloc (Nat.le_refl _) (.cells #[.slice pd.a X2.targets.length pd.c, .slice qd.a X2.data.length qd.c] 28))
  go_wp2_with fail
  go_at_call 19
  refine ((hs1 _ pa qa pb qb ia_40 ib_42)).mono ?_
  rintro e w8 ⟨rfl, hb8⟩
  replace hB := bt hB_35 hb8
  replace x := x_36.below hb8 x_36.lt
  replace xk := blk5 x
  replace z := z_37.below hb8 z_37.lt
  replace zk := blk2 z
  replace y := y_38.below hb8 y_38.lt
  replace yk := blk2 y
  replace v := v_39.below hb8 v_39.lt
  replace vk := blk2 v
  replace ia := ia_40.below hb8
  replace bia := bia_41.below hb8 bia_41.lt
  replace biak := blk2 bia
  replace ib := ib_42.below hb8
  replace bib := bib_43.below hb8 bib_43.lt
  replace bibk := blk2 bib
  replace ic := ic_44.below hb8
  replace bic := bic_45.below hb8 bic_45.lt
  replace bick := blk2 bic
  replace ir := ir_46.below hb8
  replace bir := bir.below hb8 bir.lt
  replace birk := blk2 bir
  clear hB_35 xk_36 x_36 zk_37 z_37 yk_38 y_38 vk_39 v_39 ia_40 biak_41 bia_41 ib_42 bibk_43 bib_43 ic_44 bick_45 bic_45 ir_46
  go_wp2_with fail
  go_at_call 19
  refine ((hs2 _ pc qc pd qd ic ir)).mono ?_
  rintro e w9 ⟨rfl, hb9⟩
  replace hB := bt hB hb9
  replace x := x.below hb9 x.lt
  replace xk := blk5 x
  replace z := z.below hb9 z.lt
  replace zk := blk2 z
  replace y := y.below hb9 y.lt
  replace yk := blk2 y
  replace v := v.below hb9 v.lt
  replace vk := blk2 v
  replace ia := ia.below hb9
  replace bia := bia.below hb9 bia.lt
  replace biak := blk2 bia
  replace ib := ib.below hb9
  replace bib := bib.below hb9 bib.lt
  replace bibk := blk2 bib
  replace ic := ic.below hb9
  replace bic := bic.below hb9 bic.lt
  replace bick := blk2 bic
  replace ir := ir.below hb9
  replace bir := bir.below hb9 bir.lt
  replace birk := blk2 bir
  go_wp2_with fail
  go_at_call 14
  refine ((awake12 _)).mono ?_
  rintro e w11 ⟨rfl, hb11⟩
  replace hB := bt hB hb11
  replace x := x.below hb11 x.lt
  replace xk := blk5 x
  replace z := z.below hb11 z.lt
  replace zk := blk2 z
  replace y := y.below hb11 y.lt
  replace yk := blk2 y
  replace v := v.below hb11 v.lt
  replace vk := blk2 v
  replace ia := ia.below hb11
  replace bia := bia.below hb11 bia.lt
  replace biak := blk2 bia
  replace ib := ib.below hb11
  replace bib := bib.below hb11 bib.lt
  replace bibk := blk2 bib
  replace ic := ic.below hb11
  replace bic := bic.below hb11 bic.lt
  replace bick := blk2 bic
  replace ir := ir.below hb11
  replace bir := bir.below hb11 bir.lt
  replace birk := blk2 bir
  go_wp2_with fail
  go_ret
  exact ⟨rfl, hB⟩
theorem walk (w : World) (D : Dk) (p q : Pl) (hD : IsDk0 w D p q ∧ D.cache.length * Tryz.prog.bytesOf 163 ≤ reachBytes ∧ D.bad.length * Tryz.prog.bytesOf 3 ≤ reachBytes) (L : Pn) (p' q' : Pl) (hL : IsPn w L p' q') (g h : Int) (wg : okInt g ∧ okInt h) (u : Int) (wu : (Lit.int .i64 u).wf = true) (K A : Int) (wK : okInt K ∧ okInt A) :
    Calls Tryz.prog 4 #[dval D p q, pval L p' q', gval g h, .int .i64 u, eval2 K A] w fun e w' => e = .returned (.bool true) ∧ Below w.heap.size w w' := by
  obtain ⟨hD, c1, b1⟩ := hD
  rw [show Tryz.prog.bytesOf 3 = 8 by kernel_rfl] at b1
  unfold reachBytes at b1
  cases hg : (good D L && geomOk g h) with
  | false => exact walk_no D L p q p' q' g h u K A w hD (by omega) hL hg
  | true =>
    obtain ⟨hgd, hgo⟩ : good D L = true ∧ geomOk g h = true := by simpa using hg
    have hgo' := hgo
    simp only [geomOk, Bool.and_eq_true, decide_eq_true_eq] at hgo'
    obtain ⟨n, rfl⟩ := Int.eq_ofNat_of_zero_le (show 0 ≤ h by omega)
    have hu := okInt_of wu
    exact walk_ok D L p q p' q' g n (by omega) (by omega) u K A hu w hD (by omega) hL hgd hgo
/-! ### The row -/
theorem own : ownKnob Tryz.prog.godebug = none := by kernel_rfl
set_option maxRecDepth 100000 in
theorem lifted (os : Os) (started : os.Started) (H : Type) (enc : TypeId × Value → H) :
    ReturnsInHanded {} Tryz.checked os 4 .any (Rows.pointDoesSpec.pre6 enc Tryz.prog Tryz.f4 Rows.pointDoesRow.domain false) (Rows.pointDoesSpec.post enc Tryz.prog Tryz.f4 false true false false) := by
  refine returnsInHanded_of_change_sized (C := Tryz.checked) own started (by kernel_rfl) Tryz.func4
    (ChangeSpec.witness6 (enc := enc) (C := Tryz.checked) false ⟨#[], #[.agg #[.string ByteArray.empty, .slice none 0 0, .int .i64 0, .bool false, .slice none 0 0], .agg #[.slice none 0 0, .slice none 0 0], .agg #[.int .i64 0, .int .i64 0], .int .i64 0, .agg #[.int .i64 0, .int .i64 0]], []⟩ 8 (by kernel_rfl) (by kernel_rfl) (by kernel_rfl) (by kernel_rfl)) ?_
  intro W base args ds gs before hval0 hW hcnd hsz0 _
  have hval : ∀ (j : Nat) t v, Tryz.f4.params[j]? = some t → args[j]? = some v → Value.okWide Tryz.prog W .any base t v := hval0
  have hW' := hW
  obtain ⟨p, q, hA0, hV, rfl, hfz, hnd⟩ := hW
  have hA : DataW.TrodAll enc Tryz.prog W 0 (fun _ => true) true Tryz.f4.params.toList args.toList ds p := hA0
  have hAk := hA
  have hsz : (DataW.weightsEach Tryz.prog (Tryz.f4.params.toList ++ Rows.pointDoesSpec.plain.varTypes Tryz.prog) (ds ++ gs)).all (· ≤ reachBytes) = true := hsz0
  rw [Tryz.params4] at hA hval hsz
  obtain ⟨v0, vs0, d0, ds0, p0, q0, hargs, rfl, rfl, h0, r0⟩ := trodAll_cons hA
  obtain ⟨v1, vs1, d1, ds1, p1, q1, rfl, rfl, rfl, h1, r1⟩ := trodAll_cons r0
  obtain ⟨v2, vs2, d2, ds2, p2, q2, rfl, rfl, rfl, h2, r2⟩ := trodAll_cons r1
  obtain ⟨v3, vs3, d3, ds3, p3, q3, rfl, rfl, rfl, h3, r3⟩ := trodAll_cons r2
  obtain ⟨v4, vs4, d4, ds4, p4, q4, rfl, rfl, rfl, h4, r4⟩ := trodAll_cons r3
  obtain ⟨rfl, rfl, rfl⟩ := trodAll_nil r4
  obtain rfl : args = #[v0, v1, v2, v3, v4] := by cases args; simp_all
  obtain ⟨rfl, rfl⟩ := trodVars_none hV
  obtain ⟨D0, P0, Q0, rfl, w0⟩ := open_dk_sized Tryz.underlying25 (by kernel_rfl) (by kernel_rfl) Tryz.underlying9 Tryz.underlying22 Tryz.underlying3 Tryz.underlying4 Tryz.underlying23 Tryz.underlying163 (by kernel_rfl) (by kernel_rfl) Tryz.underlying3 Tryz.underlying9 Tryz.underlying3 (by kernel_rfl) (hval 0 25 v0 rfl rfl) h0 (weights_each hsz (j := 0) rfl rfl)
  obtain ⟨D1, P1, Q1, rfl, w1⟩ := open_plan Tryz.underlying28 (by kernel_rfl) (by kernel_rfl) Tryz.underlying23 Tryz.underlying26 Tryz.underlying3 (by kernel_rfl) Tryz.underlying9 (by kernel_rfl) (hval 1 28 v1 rfl rfl) h1
  obtain ⟨a2, b2, rfl, w2⟩ := open_pair Tryz.underlying30 (by kernel_rfl) (by kernel_rfl) Tryz.underlying3 Tryz.underlying3 (hval 2 30 v2 rfl rfl) h2
  obtain ⟨a3, rfl, rfl, rfl, w3⟩ := open_int Tryz.underlying3 (hval 3 3 v3 rfl rfl) h3
  obtain ⟨a4, b4, rfl, w4⟩ := open_pair Tryz.underlying32 (by kernel_rfl) (by kernel_rfl) Tryz.underlying3 Tryz.underlying3 (hval 4 32 v4 rfl rfl) h4
  clear hA0 hval0
  simp only [List.append_nil] at hW'
  refine (walk W D0 P0 Q0 w0 D1 P1 Q1 w1 a2 b2 w2 a3 w3 a4 b4 w4).mono fun e W' ⟨he, hb⟩ => ?_
  subst he
  exact ⟨_, rfl, post_of_below (pa := _) (pv := []) hW' (fun _ _ _ => (trodAll_cons_mk (shut_bool Tryz.underlying4 _) trodAll_mk0)) (fun sp hsp => trodAll_stays (by kernel_rfl) hb (by kernel_rfl) hAk (fun x hx => hW'.lt x (by simpa using hx)) (fun x hx => hsp x (by simpa using hx))) (fun _ _ => rfl) (by simp) hb (ok_one (by kernel_rfl) rfl (okWide_bool_mk Tryz.underlying4 _))⟩
theorem over_ : Rows.pointDoesRow.holds Tryz.pinned (OpenSpec.ofChange Rows.pointDoesSpec) :=
  OpenClaim.holds_of_wide 4 Tryz.f4 rfl rfl rfl rfl rfl rfl rfl ⟨rfl, rfl, rfl, rfl, rfl⟩ rfl rfl rfl rfl rfl (by kernel_rfl) Tryz.func4 (by kernel_rfl)
    (of_decide_eq_true (by kernel_rfl)) (by unfold Func.isWrapper; first | (rw [if_pos (by decide +kernel)]; kernel_rfl) | (rw [if_neg (by decide +kernel)]; exact ⟨rfl, rfl⟩))
    (fun os started H enc _ => lifted os started H enc)
/-- The statement. -/
theorem proved : Rows.PointDoesSaid := over_
#print axioms proved
end Go.Proofs.YtplgmlcoeehnfaaGreat.pointDoes
