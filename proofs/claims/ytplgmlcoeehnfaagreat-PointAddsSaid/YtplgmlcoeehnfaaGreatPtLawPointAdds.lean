/- PointAdds: each cluster that a first table reaches is counted as much oftener as it is reached, no other one: any device, any plan, any table, any small number. No condition. -/
import Derived.Test.YtplgmlcoeehnfaaGreatPtLaw12a
import Derived.Test.YtplgmlcoeehnfaaGreatPtPointsC
import Derived.Test.YtplgmlcoeehnfaaGreatPtAddsLaw
import Derived.Test.YtplgmlcoeehnfaaGreatPtGood3
import Derived.Test.YtplgmlcoeehnfaaGreatPtOpens
set_option linter.unusedVariables false
namespace Go.Proofs.YtplgmlcoeehnfaaGreat.pointAdds
open Go.RowKit Go.Shelf Go.WideShapes Go.ChangeShapes Go.ChangeAt
open Go.ChangeMaps (open_string shut_string)
attribute [local go_sem] bs_mk bs_append bs_extract bs_size bs_toList bs_get

theorem ints12n (l : List Int) (A B : Option Addr) (n m c d : Nat) (w : World) (hn : n = l.length) (hm : m = l.length) (hA : Cells w A (intCells l)) (hB : Cells w B (intCells l)) (hl : l.length ≤ 1000000) :
    Calls Tryz.prog 29 #[.slice A n c, .slice B m d] w fun e w' => e = .returned (.bool true) ∧ Below w.heap.size w w' := by
  subst hn hm
  exact ints12 l A B c d w hA hB hl

set_option maxRecDepth 100000 in
theorem walk_no (D : Dk) (L : Pn) (p q p' q' : Pl) (t b : Int) (w : World) (h0 : IsDk0 w D p q) (hbl : D.bad.length ≤ 17592186044416) (hL : IsPn w L p' q') (hg : good D L = false) :
    Calls Tryz.prog 7 #[dval D p q, pval L p' q', .int .i64 t, .int .i8 b] w fun e w' => e = .returned (.bool true) ∧ Below w.heap.size w w' := by
  have hG := fun (W : World) (hb : Below w.heap.size w W) => good12 D L p q p' q' 1 8 W (h0.below hb) (hL.below hb) hbl
  rw [hg, Bool.false_and] at hG
  clear h0 hL hg
  obtain ⟨A1, a1⟩ := p
  obtain ⟨A2, a2⟩ := q
  obtain ⟨B1, b1⟩ := p'
  obtain ⟨B2, b2⟩ := q'
  have hB := Below.refl w.heap.size w
  have x := Blk.new w 25 #[.string (bs D.data), .slice A1 D.cache.length a1, .int .i64 D.fuse, .bool D.off, .slice A2 D.bad.length a2]
  have xk := blk5 x
  have hB_1 := hB.alloc hB.size (.cells #[.string (bs D.data), .slice A1 D.cache.length a1, .int .i64 D.fuse, .bool D.off, .slice A2 D.bad.length a2] 25)
  have z := Blk.new (w.alloc (.cells #[.string (bs D.data), .slice A1 D.cache.length a1, .int .i64 D.fuse, .bool D.off, .slice A2 D.bad.length a2] 25)) 28 #[.slice B1 L.targets.length b1, .slice B2 L.data.length b2]
  simp only [World.size_alloc] at z
  have zk := blk2 z
  have hB_2 := hB_1.alloc hB_1.size (.cells #[.slice B1 L.targets.length b1, .slice B2 L.data.length b2] 28)
  have x_3 := x.alloc (.cells #[.slice B1 L.targets.length b1, .slice B2 L.data.length b2] 28)
  have xk_3 := blk5 x_3
  go_enter Tryz.func7, Tryz.ntmps7
  go_wp2_with fail
  go_at_call 13
  refine ((hG _ hB_2)).mono ?_
  rintro e w1 ⟨rfl, hb1⟩
  replace hB := bt hB_2 hb1
  replace x := x_3.below hb1 x_3.lt
  replace xk := blk5 x
  replace z := z.below hb1 z.lt
  replace zk := blk2 z
  clear hB_1 hB_2 xk_3 x_3
  go_wp2_with fail
  go_at_call 14
  refine ((awake12 _)).mono ?_
  rintro e w2 ⟨rfl, hb2⟩
  replace hB := bt hB hb2
  replace x := x.below hb2 x.lt
  replace xk := blk5 x
  replace z := z.below hb2 z.lt
  replace zk := blk2 z
  go_wp2_with fail
  go_ret
  exact ⟨rfl, hB⟩

set_option maxRecDepth 100000 in
theorem walk_not (D : Dk) (L : Pn) (p q p' q' : Pl) (t b : Int) (w : World) (h0 : IsDk0 w D p q) (hbl : D.bad.length ≤ 17592186044416) (hL : IsPn w L p' q') (hg : good D L = true) (hb8 : -128 ≤ b ∧ b ≤ 127) (R : List Int) (e1 e2 : Int) (X : Pn) (hR : Pn.ptReach D L t = (R, e1)) (hX : Pn.ptShare D L t b = (X, e2)) (he : e1 = 0 ∧ e2 ≠ 0 ∨ e1 ≠ 0 ∧ e2 = e1) :
    Calls Tryz.prog 7 #[dval D p q, pval L p' q', .int .i64 t, .int .i8 b] w fun e w' => e = .returned (.bool true) ∧ Below w.heap.size w w' := by
  obtain ⟨g1, g2, g3, g4⟩ := good_iff.1 hg
  have hD := h0.full (by omega) hbl (by omega)
  have hG := fun (W : World) (hb : Below w.heap.size w W) => good12 D L p q p' q' 1 8 W (h0.below hb) (hL.below hb) hbl
  rw [hg, show geomOk 1 8 = true from rfl, Bool.and_true] at hG
  have hdl := (Dk.fit_parts g3).2.2.1
  have hb64 : okInt b := by unfold okInt; omega
  have hw : IntKind.i64.wrap b = b := i64w (by omega)
  have h1 := fun (W : World) (hb : Below w.heap.size w W) => p_reach D L p q p' q' W (hD.below hb) (hL.below hb) g3 g4 t
  rw [hR] at h1
  have h2 := fun (W : World) (hb' : Below w.heap.size w W) => p_share D L p q p' q' W (hD.below hb') (hL.below hb') g3 g4 t b hb64
  rw [hX] at h2
  clear h0 hL hg hD g1 g2 g3 g4 hdl hb64 hX hR
  rcases he with ⟨rfl, he⟩ | ⟨he, rfl⟩
  · have n1 : (e2 != 0) = true := by simpa using he
    clear he
    obtain ⟨A1, a1⟩ := p
    obtain ⟨A2, a2⟩ := q
    obtain ⟨B1, b1⟩ := p'
    obtain ⟨B2, b2⟩ := q'
    have hB := Below.refl w.heap.size w
    have x := Blk.new w 25 #[.string (bs D.data), .slice A1 D.cache.length a1, .int .i64 D.fuse, .bool D.off, .slice A2 D.bad.length a2]
    have xk := blk5 x
    have hB_1 := hB.alloc hB.size (.cells #[.string (bs D.data), .slice A1 D.cache.length a1, .int .i64 D.fuse, .bool D.off, .slice A2 D.bad.length a2] 25)
    have z := Blk.new (w.alloc (.cells #[.string (bs D.data), .slice A1 D.cache.length a1, .int .i64 D.fuse, .bool D.off, .slice A2 D.bad.length a2] 25)) 28 #[.slice B1 L.targets.length b1, .slice B2 L.data.length b2]
    simp only [World.size_alloc] at z
    have zk := blk2 z
    have hB_2 := hB_1.alloc hB_1.size (.cells #[.slice B1 L.targets.length b1, .slice B2 L.data.length b2] 28)
    have x_3 := x.alloc (.cells #[.slice B1 L.targets.length b1, .slice B2 L.data.length b2] 28)
    have xk_3 := blk5 x_3
    go_enter Tryz.func7, Tryz.ntmps7
    go_wp2_with fail
    go_at_call 13
    refine ((hG _ hB_2)).mono ?_
    rintro e w1 ⟨rfl, hb1⟩
    replace hB := bt hB_2 hb1
    replace x := x_3.below hb1 x_3.lt
    replace xk := blk5 x
    replace z := z.below hb1 z.lt
    replace zk := blk2 z
    clear hB_1 hB_2 xk_3 x_3
    go_wp2_with fail
    go_at_call 25
    refine ((h1 _ hB)).mono ?_
    rintro e w2 ⟨⟨v1, rfl, own1⟩, hb2⟩
    replace hB := bt hB hb2
    replace x := x.below hb2 x.lt
    replace xk := blk5 x
    replace z := z.below hb2 z.lt
    replace zk := blk2 z
    go_wp2_with fail
    go_at_call 27
    refine ((h2 _ hB)).mono ?_
    rintro e w3 ⟨⟨pc, qc, rfl, ic, oc⟩, hb3⟩
    replace hB := bt hB hb3
    replace x := x.below hb3 x.lt
    replace xk := blk5 x
    replace z := z.below hb3 z.lt
    replace zk := blk2 z
    obtain ⟨C1, c1, rfl, _⟩ := own_slice own1
    have bic := Blk.new w3 28 #[.slice pc.a X.targets.length pc.c, .slice qc.a X.data.length qc.c]
    have bick := blk2 bic
    have hB_4 := hB.alloc hB.size (.cells #[.slice pc.a X.targets.length pc.c, .slice qc.a X.data.length qc.c] 28)
    have x_5 := x.alloc (.cells #[.slice pc.a X.targets.length pc.c, .slice qc.a X.data.length qc.c] 28)
    have xk_5 := blk5 x_5
    have z_6 := z.alloc (.cells #[.slice pc.a X.targets.length pc.c, .slice qc.a X.data.length qc.c] 28)
    have zk_6 := blk2 z_6
    have ic_7 := ic.below ((Below.refl _ _).alloc (Nat.le_refl _) (.cells #[.slice pc.a X.targets.length pc.c, .slice qc.a X.data.length qc.c] 28))
    go_wp2_with fail
    go_at_call 14
    refine ((awake12 _)).mono ?_
    rintro e w11 ⟨rfl, hb11⟩
    replace hB := bt hB_4 hb11
    replace x := x_5.below hb11 x_5.lt
    replace xk := blk5 x
    replace z := z_6.below hb11 z_6.lt
    replace zk := blk2 z
    replace ic := ic_7.below hb11
    replace bic := bic.below hb11 bic.lt
    replace bick := blk2 bic
    clear hB_4 xk_5 x_5 zk_6 z_6 ic_7
    go_wp2_with fail
    go_ret
    exact ⟨rfl, hB⟩
  · have n1 : (e2 != 0) = true := by simpa using he
    have n2 : (e2 == 0) = false := by simpa using he
    clear he
    obtain ⟨A1, a1⟩ := p
    obtain ⟨A2, a2⟩ := q
    obtain ⟨B1, b1⟩ := p'
    obtain ⟨B2, b2⟩ := q'
    have hB := Below.refl w.heap.size w
    have x := Blk.new w 25 #[.string (bs D.data), .slice A1 D.cache.length a1, .int .i64 D.fuse, .bool D.off, .slice A2 D.bad.length a2]
    have xk := blk5 x
    have hB_1 := hB.alloc hB.size (.cells #[.string (bs D.data), .slice A1 D.cache.length a1, .int .i64 D.fuse, .bool D.off, .slice A2 D.bad.length a2] 25)
    have z := Blk.new (w.alloc (.cells #[.string (bs D.data), .slice A1 D.cache.length a1, .int .i64 D.fuse, .bool D.off, .slice A2 D.bad.length a2] 25)) 28 #[.slice B1 L.targets.length b1, .slice B2 L.data.length b2]
    simp only [World.size_alloc] at z
    have zk := blk2 z
    have hB_2 := hB_1.alloc hB_1.size (.cells #[.slice B1 L.targets.length b1, .slice B2 L.data.length b2] 28)
    have x_3 := x.alloc (.cells #[.slice B1 L.targets.length b1, .slice B2 L.data.length b2] 28)
    have xk_3 := blk5 x_3
    go_enter Tryz.func7, Tryz.ntmps7
    go_wp2_with fail
    go_at_call 13
    refine ((hG _ hB_2)).mono ?_
    rintro e w1 ⟨rfl, hb1⟩
    replace hB := bt hB_2 hb1
    replace x := x_3.below hb1 x_3.lt
    replace xk := blk5 x
    replace z := z.below hb1 z.lt
    replace zk := blk2 z
    clear hB_1 hB_2 xk_3 x_3
    go_wp2_with fail
    go_at_call 25
    refine ((h1 _ hB)).mono ?_
    rintro e w2 ⟨⟨v1, rfl, own1⟩, hb2⟩
    replace hB := bt hB hb2
    replace x := x.below hb2 x.lt
    replace xk := blk5 x
    replace z := z.below hb2 z.lt
    replace zk := blk2 z
    go_wp2_with fail
    go_at_call 27
    refine ((h2 _ hB)).mono ?_
    rintro e w3 ⟨⟨pc, qc, rfl, ic, oc⟩, hb3⟩
    replace hB := bt hB hb3
    replace x := x.below hb3 x.lt
    replace xk := blk5 x
    replace z := z.below hb3 z.lt
    replace zk := blk2 z
    obtain ⟨C1, c1, rfl, _⟩ := own_slice own1
    have bic := Blk.new w3 28 #[.slice pc.a X.targets.length pc.c, .slice qc.a X.data.length qc.c]
    have bick := blk2 bic
    have hB_4 := hB.alloc hB.size (.cells #[.slice pc.a X.targets.length pc.c, .slice qc.a X.data.length qc.c] 28)
    have x_5 := x.alloc (.cells #[.slice pc.a X.targets.length pc.c, .slice qc.a X.data.length qc.c] 28)
    have xk_5 := blk5 x_5
    have z_6 := z.alloc (.cells #[.slice pc.a X.targets.length pc.c, .slice qc.a X.data.length qc.c] 28)
    have zk_6 := blk2 z_6
    have ic_7 := ic.below ((Below.refl _ _).alloc (Nat.le_refl _) (.cells #[.slice pc.a X.targets.length pc.c, .slice qc.a X.data.length qc.c] 28))
    go_wp2_with fail
    go_at_call 14
    refine ((awake12 _)).mono ?_
    rintro e w11 ⟨rfl, hb11⟩
    replace hB := bt hB_4 hb11
    replace x := x_5.below hb11 x_5.lt
    replace xk := blk5 x
    replace z := z_6.below hb11 z_6.lt
    replace zk := blk2 z
    replace ic := ic_7.below hb11
    replace bic := bic.below hb11 bic.lt
    replace bick := blk2 bic
    clear hB_4 xk_5 x_5 zk_6 z_6 ic_7
    go_wp2_with fail
    go_ret
    exact ⟨rfl, hB⟩

set_option maxRecDepth 100000 in
theorem walk_dark (D : Dk) (L : Pn) (p q p' q' : Pl) (t b : Int) (w : World) (h0 : IsDk0 w D p q) (hbl : D.bad.length ≤ 17592186044416) (hL : IsPn w L p' q') (hg : good D L = true) (hb8 : -128 ≤ b ∧ b ≤ 127) (R : List Int) (X : Pn) (hR : Pn.ptReach D L t = (R, 0)) (hX : Pn.ptShare D L t b = (X, 0)) (hXf : X.Fit) (U U' : List Int) (g g' : Int) (hU : Pn.cntAll D L 256 = (U, g)) (hU' : Pn.cntAll D X 256 = (U', g')) (hg0 : g ≠ 0) :
    Calls Tryz.prog 7 #[dval D p q, pval L p' q', .int .i64 t, .int .i8 b] w fun e w' => e = .returned (.bool true) ∧ Below w.heap.size w w' := by
  obtain ⟨g1, g2, g3, g4⟩ := good_iff.1 hg
  have hD := h0.full (by omega) hbl (by omega)
  have hG := fun (W : World) (hb : Below w.heap.size w W) => good12 D L p q p' q' 1 8 W (h0.below hb) (hL.below hb) hbl
  rw [hg, show geomOk 1 8 = true from rfl, Bool.and_true] at hG
  have hdl := (Dk.fit_parts g3).2.2.1
  have hb64 : okInt b := by unfold okInt; omega
  have hw : IntKind.i64.wrap b = b := i64w (by omega)
  have h1 := fun (W : World) (hb : Below w.heap.size w W) => p_reach D L p q p' q' W (hD.below hb) (hL.below hb) g3 g4 t
  rw [hR] at h1
  have h2 := fun (W : World) (hb' : Below w.heap.size w W) => p_share D L p q p' q' W (hD.below hb') (hL.below hb') g3 g4 t b hb64
  rw [hX] at h2
  have h3 := fun (W : World) (p1 q1 : Pl) (h : IsPn W X p1 q1) => r5_fit X p1 q1 W h
  rw [Pn.fit_iff.2 hXf] at h3
  have h5 := fun (W : World) (hb' : Below w.heap.size w W) => r8_all D L p q p' q' W (hD.below hb') (hL.below hb') g3 g4 256
  have h6 := fun (W : World) (hb' : Below w.heap.size w W) (p1 q1 : Pl) (h : IsPn W X p1 q1) => r8_all D X p q p1 q1 W (hD.below hb') h g3 hXf 256
  rw [hU] at h5
  rw [hU'] at h6
  have n1 : (g != 0) = true := by simpa using hg0
  clear h0 hL hg hD g1 g2 g3 g4 hdl hb64 hX hR hXf hU hU' hg0
  obtain ⟨A1, a1⟩ := p
  obtain ⟨A2, a2⟩ := q
  obtain ⟨B1, b1⟩ := p'
  obtain ⟨B2, b2⟩ := q'
  have hB := Below.refl w.heap.size w
  have x := Blk.new w 25 #[.string (bs D.data), .slice A1 D.cache.length a1, .int .i64 D.fuse, .bool D.off, .slice A2 D.bad.length a2]
  have xk := blk5 x
  have hB_1 := hB.alloc hB.size (.cells #[.string (bs D.data), .slice A1 D.cache.length a1, .int .i64 D.fuse, .bool D.off, .slice A2 D.bad.length a2] 25)
  have z := Blk.new (w.alloc (.cells #[.string (bs D.data), .slice A1 D.cache.length a1, .int .i64 D.fuse, .bool D.off, .slice A2 D.bad.length a2] 25)) 28 #[.slice B1 L.targets.length b1, .slice B2 L.data.length b2]
  simp only [World.size_alloc] at z
  have zk := blk2 z
  have hB_2 := hB_1.alloc hB_1.size (.cells #[.slice B1 L.targets.length b1, .slice B2 L.data.length b2] 28)
  have x_3 := x.alloc (.cells #[.slice B1 L.targets.length b1, .slice B2 L.data.length b2] 28)
  have xk_3 := blk5 x_3
  go_enter Tryz.func7, Tryz.ntmps7
  go_wp2_with fail
  go_at_call 13
  refine ((hG _ hB_2)).mono ?_
  rintro e w1 ⟨rfl, hb1⟩
  replace hB := bt hB_2 hb1
  replace x := x_3.below hb1 x_3.lt
  replace xk := blk5 x
  replace z := z.below hb1 z.lt
  replace zk := blk2 z
  clear hB_1 hB_2 xk_3 x_3
  go_wp2_with fail
  go_at_call 25
  refine ((h1 _ hB)).mono ?_
  rintro e w2 ⟨⟨v1, rfl, own1⟩, hb2⟩
  replace hB := bt hB hb2
  replace x := x.below hb2 x.lt
  replace xk := blk5 x
  replace z := z.below hb2 z.lt
  replace zk := blk2 z
  go_wp2_with fail
  go_at_call 27
  refine ((h2 _ hB)).mono ?_
  rintro e w3 ⟨⟨pc, qc, rfl, ic, oc⟩, hb3⟩
  replace hB := bt hB hb3
  replace x := x.below hb3 x.lt
  replace xk := blk5 x
  replace z := z.below hb3 z.lt
  replace zk := blk2 z
  obtain ⟨C1, c1, rfl, _⟩ := own_slice own1
  have bic := Blk.new w3 28 #[.slice pc.a X.targets.length pc.c, .slice qc.a X.data.length qc.c]
  have bick := blk2 bic
  have hB_4 := hB.alloc hB.size (.cells #[.slice pc.a X.targets.length pc.c, .slice qc.a X.data.length qc.c] 28)
  have x_5 := x.alloc (.cells #[.slice pc.a X.targets.length pc.c, .slice qc.a X.data.length qc.c] 28)
  have xk_5 := blk5 x_5
  have z_6 := z.alloc (.cells #[.slice pc.a X.targets.length pc.c, .slice qc.a X.data.length qc.c] 28)
  have zk_6 := blk2 z_6
  have ic_7 := ic.below ((Below.refl _ _).alloc (Nat.le_refl _) (.cells #[.slice pc.a X.targets.length pc.c, .slice qc.a X.data.length qc.c] 28))
  go_wp2_with fail
  go_at_call 18
  refine ((h3 _ pc qc ic_7)).mono ?_
  rintro e w4 ⟨rfl, hb4⟩
  replace hB := bt hB_4 hb4
  replace x := x_5.below hb4 x_5.lt
  replace xk := blk5 x
  replace z := z_6.below hb4 z_6.lt
  replace zk := blk2 z
  replace ic := ic_7.below hb4
  replace bic := bic.below hb4 bic.lt
  replace bick := blk2 bic
  clear hB_4 xk_5 x_5 zk_6 z_6 ic_7
  go_wp2_with fail
  go_at_call 30
  refine ((h5 _ hB)).mono ?_
  rintro e w6 ⟨⟨v2, rfl, own2⟩, hb6⟩
  replace hB := bt hB hb6
  replace x := x.below hb6 x.lt
  replace xk := blk5 x
  replace z := z.below hb6 z.lt
  replace zk := blk2 z
  replace ic := ic.below hb6
  replace bic := bic.below hb6 bic.lt
  replace bick := blk2 bic
  obtain ⟨C2, c2, rfl, _⟩ := own_slice own2
  go_wp2_with fail
  go_at_call 30
  refine ((h6 _ hB pc qc ic)).mono ?_
  rintro e w7 ⟨⟨v3, rfl, own3⟩, hb7⟩
  replace hB := bt hB hb7
  replace x := x.below hb7 x.lt
  replace xk := blk5 x
  replace z := z.below hb7 z.lt
  replace zk := blk2 z
  replace ic := ic.below hb7
  replace bic := bic.below hb7 bic.lt
  replace bick := blk2 bic
  obtain ⟨C3, c3, rfl, _⟩ := own_slice own3
  go_wp2_with fail
  go_at_call 14
  refine ((awake12 _)).mono ?_
  rintro e w11 ⟨rfl, hb11⟩
  replace hB := bt hB hb11
  replace x := x.below hb11 x.lt
  replace xk := blk5 x
  replace z := z.below hb11 z.lt
  replace zk := blk2 z
  replace ic := ic.below hb11
  replace bic := bic.below hb11 bic.lt
  replace bick := blk2 bic
  go_wp2_with fail
  go_ret
  exact ⟨rfl, hB⟩

set_option maxRecDepth 100000 in
set_option maxHeartbeats 2000000 in
theorem walk_ok (D : Dk) (L : Pn) (p q p' q' : Pl) (t b : Int) (w : World) (h0 : IsDk0 w D p q) (hbl : D.bad.length ≤ 17592186044416) (hL : IsPn w L p' q') (hg : good D L = true) (hb8 : -128 ≤ b ∧ b ≤ 127) (R : List Int) (X : Pn) (hR : Pn.ptReach D L t = (R, 0)) (hX : Pn.ptShare D L t b = (X, 0)) (hXf : X.Fit) (U U' : List Int) (hU : Pn.cntAll D L 256 = (U, 0)) (hU' : Pn.cntAll D X 256 = (U', 0)) (hbump : bump b U R = U') (hUl : U.length = 256) (hUs : ∀ x ∈ U, 0 ≤ x ∧ x ≤ 65535) :
    Calls Tryz.prog 7 #[dval D p q, pval L p' q', .int .i64 t, .int .i8 b] w fun e w' => e = .returned (.bool true) ∧ Below w.heap.size w w' := by
  obtain ⟨g1, g2, g3, g4⟩ := good_iff.1 hg
  have hD := h0.full (by omega) hbl (by omega)
  have hG := fun (W : World) (hb : Below w.heap.size w W) => good12 D L p q p' q' 1 8 W (h0.below hb) (hL.below hb) hbl
  rw [hg, show geomOk 1 8 = true from rfl, Bool.and_true] at hG
  have hdl := (Dk.fit_parts g3).2.2.1
  have hb64 : okInt b := by unfold okInt; omega
  have hw : IntKind.i64.wrap b = b := i64w (by omega)
  have h1 := fun (W : World) (hb : Below w.heap.size w W) => p_reach D L p q p' q' W (hD.below hb) (hL.below hb) g3 g4 t
  rw [hR] at h1
  have h2 := fun (W : World) (hb' : Below w.heap.size w W) => p_share D L p q p' q' W (hD.below hb') (hL.below hb') g3 g4 t b hb64
  rw [hX] at h2
  have h3 := fun (W : World) (p1 q1 : Pl) (h : IsPn W X p1 q1) => r5_fit X p1 q1 W h
  rw [Pn.fit_iff.2 hXf] at h3
  have h5 := fun (W : World) (hb' : Below w.heap.size w W) => r8_all D L p q p' q' W (hD.below hb') (hL.below hb') g3 g4 256
  have h6 := fun (W : World) (hb' : Below w.heap.size w W) (p1 q1 : Pl) (h : IsPn W X p1 q1) => r8_all D X p q p1 q1 W (hD.below hb') h g3 hXf 256
  rw [hU] at h5
  rw [hU'] at h6
  have hRs := Pn.ptReach_small (D := D) (L := L) t
  rw [hR] at hRs
  have HR := hid hRs.1
  have HRl := hid (show R.length ≤ 68 from hRs.2)
  have HU := hid hUs
  have HUl := hid hUl
  have HB := hid hbump
  have HV := hid (show U'.length = 256 by rw [← hbump, bump_length]; exact hUl)
  clear h0 hL hg hD g1 g2 g3 g4 hdl hb64 hX hR hXf hU hU' hRs hUs hUl hbump
  obtain ⟨A1, a1⟩ := p
  obtain ⟨A2, a2⟩ := q
  obtain ⟨B1, b1⟩ := p'
  obtain ⟨B2, b2⟩ := q'
  have hB := Below.refl w.heap.size w
  have x := Blk.new w 25 #[.string (bs D.data), .slice A1 D.cache.length a1, .int .i64 D.fuse, .bool D.off, .slice A2 D.bad.length a2]
  have xk := blk5 x
  have hB_1 := hB.alloc hB.size (.cells #[.string (bs D.data), .slice A1 D.cache.length a1, .int .i64 D.fuse, .bool D.off, .slice A2 D.bad.length a2] 25)
  have z := Blk.new (w.alloc (.cells #[.string (bs D.data), .slice A1 D.cache.length a1, .int .i64 D.fuse, .bool D.off, .slice A2 D.bad.length a2] 25)) 28 #[.slice B1 L.targets.length b1, .slice B2 L.data.length b2]
  simp only [World.size_alloc] at z
  have zk := blk2 z
  have hB_2 := hB_1.alloc hB_1.size (.cells #[.slice B1 L.targets.length b1, .slice B2 L.data.length b2] 28)
  have x_3 := x.alloc (.cells #[.slice B1 L.targets.length b1, .slice B2 L.data.length b2] 28)
  have xk_3 := blk5 x_3
  go_enter Tryz.func7, Tryz.ntmps7
  go_wp2_with fail
  go_at_call 13
  refine ((hG _ hB_2)).mono ?_
  rintro e w1 ⟨rfl, hb1⟩
  replace hB := bt hB_2 hb1
  replace x := x_3.below hb1 x_3.lt
  replace xk := blk5 x
  replace z := z.below hb1 z.lt
  replace zk := blk2 z
  clear hB_1 hB_2 xk_3 x_3
  go_wp2_with fail
  go_at_call 25
  refine ((h1 _ hB)).mono ?_
  rintro e w2 ⟨⟨v1, rfl, own1⟩, hb2⟩
  replace hB := bt hB hb2
  replace x := x.below hb2 x.lt
  replace xk := blk5 x
  replace z := z.below hb2 z.lt
  replace zk := blk2 z
  obtain ⟨C1, c1, rfl, _⟩ := own_slice own1
  have hC1 : R = [] ∨ ∃ gR, C1 = some ⟨gR, 0, none⟩ ∧ gR < w2.heap.size ∧ RowI w2 gR R := by
    by_cases hne : R = []
    · exact .inl hne
    · obtain ⟨gR, cR, e, _, r1, _, _, _, r2⟩ := own_rowI own1 hne
      injection e with e1 e2 e3
      exact .inr ⟨gR, e1, r1, r2⟩
  clear own1
  have h2s := (Below.refl w2.heap.size w2)
  go_wp2_with fail
  go_at_call 27
  refine ((h2 _ hB)).mono ?_
  rintro e w3 ⟨⟨pc, qc, rfl, ic, oc⟩, hb3⟩
  replace hB := bt hB hb3
  replace x := x.below hb3 x.lt
  replace xk := blk5 x
  replace z := z.below hb3 z.lt
  replace zk := blk2 z
  replace h2s := bt h2s hb3
  have bic := Blk.new w3 28 #[.slice pc.a X.targets.length pc.c, .slice qc.a X.data.length qc.c]
  have bick := blk2 bic
  have hB_4 := hB.alloc hB.size (.cells #[.slice pc.a X.targets.length pc.c, .slice qc.a X.data.length qc.c] 28)
  have x_5 := x.alloc (.cells #[.slice pc.a X.targets.length pc.c, .slice qc.a X.data.length qc.c] 28)
  have xk_5 := blk5 x_5
  have z_6 := z.alloc (.cells #[.slice pc.a X.targets.length pc.c, .slice qc.a X.data.length qc.c] 28)
  have zk_6 := blk2 z_6
  have h2s_7 := h2s.alloc h2s.size (.cells #[.slice pc.a X.targets.length pc.c, .slice qc.a X.data.length qc.c] 28)
  have ic_8 := ic.below ((Below.refl _ _).alloc (Nat.le_refl _) (.cells #[.slice pc.a X.targets.length pc.c, .slice qc.a X.data.length qc.c] 28))
  go_wp2_with fail
  go_at_call 18
  refine ((h3 _ pc qc ic_8)).mono ?_
  rintro e w4 ⟨rfl, hb4⟩
  replace hB := bt hB_4 hb4
  replace x := x_5.below hb4 x_5.lt
  replace xk := blk5 x
  replace z := z_6.below hb4 z_6.lt
  replace zk := blk2 z
  replace h2s := bt h2s_7 hb4
  replace ic := ic_8.below hb4
  replace bic := bic.below hb4 bic.lt
  replace bick := blk2 bic
  clear hB_4 xk_5 x_5 zk_6 z_6 h2s_7 ic_8
  have hs24 := (h2s).size
  have hB4 := (hB).size
  go_wp2_with fail
  go_at_call 30
  refine ((h5 _ hB)).mono ?_
  rintro e w6 ⟨⟨v2, rfl, own2⟩, hb6⟩
  replace hB := bt hB hb6
  replace x := x.below hb6 x.lt
  replace xk := blk5 x
  replace z := z.below hb6 z.lt
  replace zk := blk2 z
  replace h2s := bt h2s hb6
  replace ic := ic.below hb6
  replace bic := bic.below hb6 bic.lt
  replace bick := blk2 bic
  obtain ⟨g2, c2, rfl, f1, f2, _, f4, f5, row2⟩ := own_rowI own2 (fun e => by have := HUl.out; rw [e] at this; exact absurd this (by decide))
  have hs4 := hb4.size
  have hs2 := (h2s).size
  clear own2
  go_wp2_with fail
  go_at_call 30
  refine ((h6 _ hB pc qc ic)).mono ?_
  rintro e w7 ⟨⟨v3, rfl, own3⟩, hb7⟩
  replace hB := bt hB hb7
  replace x := x.below hb7 x.lt
  replace xk := blk5 x
  replace z := z.below hb7 z.lt
  replace zk := blk2 z
  replace h2s := bt h2s hb7
  replace ic := ic.below hb7
  replace bic := bic.below hb7 bic.lt
  replace bick := blk2 bic
  obtain ⟨g3, c3, rfl, f6, f7, _, f9, f10, row3⟩ := own_rowI own3 (fun e => by have := HV.out; rw [e] at this; exact absurd this (by decide))
  have row2 := row2.below hb7 f2
  have hbx := hB
  have h2x := h2s
  clear own3
  have hne2 : g2 ≠ g3 := by omega
  have h2s4 := (h2s).size
  have hC2 : Hid (R = [] ∨ ∃ gR, C1 = some ⟨gR, 0, none⟩ ∧ gR ≠ g2 ∧ RowI w7 gR R) := hid (by
    rcases hC1 with h | ⟨gR, h1, h2, h3⟩
    · exact .inl h
    · exact .inr ⟨gR, h1, by omega, h3.below h2x h2⟩)
  have hRi := HR.out
  have hUl := HUl.out
  have hg2 : w.heap.size ≤ g2 := by omega
  have Hbi := hid (fun j => bump_small (b := b) (U := U) (l := R.take j) hb8 (fun k hk => by rw [hUl]; exact hRi k (List.mem_of_mem_take hk)) HU.out (by have := HRl.out; simp; omega))
  have HUl2 := hid (show (U.length : Int) = 256 by omega)
  clear hRi hUl hC1
  go_wp2_with fail
  go_loopw [81] (fun x W => ∃ i : Nat, i ≤ R.length ∧ x = .int .i64 i ∧ Hid (R = [] ∨ ∃ gR, C1 = some ⟨gR, 0, none⟩ ∧ gR ≠ g2 ∧ RowI W gR R) ∧ RowI W g2 (bump b U (R.take i)) ∧ RowI W g3 U' ∧ Below w.heap.size w W) (fun x _ => R.length - (intOf x).toNat)
  case atStart => exact ⟨0, Nat.zero_le _, rfl, hC2, row2, row3, hbx⟩
  case round =>
    clear row2 row3 hbx hC2
    obtain ⟨i, hi, rfl, HC, row2, row3, hB⟩ := hrel
    have hRl := HRl.out
    by_cases hlt : i < R.length
    · obtain h0 | ⟨gR, rfl, hne, rR⟩ := HC.out
      · rw [h0] at hlt; exact absurd hlt (Nat.not_lt_zero _)
      have hcell := (rR i hlt).1
      obtain ⟨hr0, hr1⟩ := HR.out R[i] (List.getElem_mem hlt)
      obtain ⟨m, hm⟩ := Int.eq_ofNat_of_zero_le hr0
      have hQn := bump_next b U R i hlt
      rw [hm] at hcell hQn hr1
      rw [Int.toNat_natCast] at hQn
      have hm256 : m < 256 := by omega
      have hlen : (bump b U (R.take i)).length = 256 := by rw [bump_length]; exact HUl.out
      have hQs := Hbi.out i m
      obtain ⟨c0, f0⟩ := row2 m (by rw [hlen]; exact hm256)
      have row1 := row2.set m ((bump b U (R.take i)).getD m 0 + b) (by rw [hlen]; exact hm256)
      rw [← hQn] at row1
      have e3 : (bump b U (R.take i))[m]'(by rw [hlen]; exact hm256) = (bump b U (R.take i)).getD m 0 := by rw [List.getD_eq_getElem?_getD, List.getElem?_eq_getElem (by rw [hlen]; exact hm256)]; rfl
      rw [e3] at c0
      generalize (bump b U (R.take i)).getD m 0 = t1 at c0 row1 hQs
      have hw1 : IntKind.i64.wrap (t1 + b) = t1 + b := i64w (by omega)
      have row4 := row3.other (a := ⟨g2, m, none⟩) (Ne.symm hne2) (.int .i64 (t1 + b))
      have hB1 := hB.setCell (p := ⟨g2, m, none⟩) hg2 (.int .i64 (t1 + b))
      have rR1 := rR.other (a := ⟨g2, m, none⟩) hne (.int .i64 (t1 + b))
      have HX := hid (show _ ∧ _ ∧ _ ∧ _ from ⟨row1, row4, hB1, rR1⟩)
      have Hne := hid hne
      have hUl := HUl.out
      have d1 : decide ((m : Int) < 0) = false := by simp
      have d2 : decide ((U.length : Int) ≤ (m : Int)) = false := by simp; omega
      have d3 : decide (U.length ≤ m) = false := by simp; omega
      have hmU : m < U.length := by omega
      have hUl3 := hid hUl
      clear e3 hQn hlen hm hr0 hr1 hQs hB rR row2 row3 row1 row4 hB1 rR1 hne HC hUl
      go_wp2_with fail
      go_roundw
      case rel =>
        obtain ⟨row1, row4, hB1, rR1⟩ := HX.out
        exact ⟨i + 1, by omega, by go_num, hid (.inr ⟨gR, rfl, Hne.out, rR1⟩), row1, row4, hB1⟩
      case measure => simp [intOf]; omega
    · obtain rfl : i = R.length := by omega
      rw [List.take_length, HB.out] at row2
      have hI := ints12n U' (some ⟨g2, 0, none⟩) (some ⟨g3, 0, none⟩) U.length U'.length c2 c3 wr (by rw [HV.out, HUl.out]) rfl row2.cells row3.cells (by rw [HV.out]; decide)
      clear hi hlt HC hRl
      have hbx := hB
      clear hB row2 row3
      go_wp2_with fail
      go_at_call 29
      refine hI.mono ?_
      rintro e w8 ⟨rfl, hb8'⟩
      go_wp2_with fail
      go_at_call 14
      refine (awake12 _).mono ?_
      rintro e w9 ⟨rfl, hb9⟩
      go_wp2_with fail
      go_ret
      exact ⟨rfl, bt (bt hbx hb8') hb9⟩
theorem walk (w : World) (D : Dk) (p q : Pl) (hD : IsDk0 w D p q ∧ D.cache.length * Tryz.prog.bytesOf 163 ≤ reachBytes ∧ D.bad.length * Tryz.prog.bytesOf 3 ≤ reachBytes) (L : Pn) (p' q' : Pl) (hL : IsPn w L p' q') (t : Int) (wt : (Lit.int .i64 t).wf = true) (b : Int) (wb : (Lit.int .i8 b).wf = true) :
    Calls Tryz.prog 7 #[dval D p q, pval L p' q', .int .i64 t, .int .i8 b] w fun e w' => e = .returned (.bool true) ∧ Below w.heap.size w w' := by
  obtain ⟨hD, c1, b1⟩ := hD
  rw [show Tryz.prog.bytesOf 3 = 8 by kernel_rfl] at b1
  unfold reachBytes at b1
  cases hg : good D L with
  | false => exact walk_no D L p q p' q' t b w hD (by omega) hL hg
  | true =>
    obtain ⟨_, _, g3, g4⟩ := good_iff.1 hg
    have hb8 : -128 ≤ b ∧ b ≤ 127 := by
      have := wb
      simp [Lit.wf, IntKind.min, IntKind.max, IntKind.bits, IntKind.signed] at this
      omega
    obtain ⟨R, e1, hR⟩ : ∃ R e1, Pn.ptReach D L t = (R, e1) := ⟨_, _, rfl⟩
    obtain ⟨X, e2, hX⟩ : ∃ X e2, Pn.ptShare D L t b = (X, e2) := ⟨_, _, rfl⟩
    by_cases h1 : e1 = 0
    · subst h1
      by_cases h2 : e2 = 0
      · subst h2
        obtain ⟨x1, x2, x3⟩ := Pn.ptShare_counts g3 g4 hX
        rw [hR] at x2
        obtain ⟨U, g, hU⟩ : ∃ U g, Pn.cntAll D L 256 = (U, g) := ⟨_, _, (Prod.eta _).symm⟩
        obtain ⟨U', g', hU'⟩ : ∃ U' g', Pn.cntAll D X 256 = (U', g') := ⟨_, _, (Prod.eta _).symm⟩
        have hgg : g' = g := by
          have e1 : (Pn.cntAll D X 256).2 = (Pn.cntAll D L 256).2 := by
            unfold Pn.cntAll
            rw [if_neg (by decide), if_neg (by decide)]
            exact allN_err_congr fun i hi => (x2 i).2
          rw [hU, hU'] at e1
          exact e1
        subst hgg
        by_cases h3 : g' = 0
        · subst h3
          have k1 := Pn.cntAll_ok (D := D) (L := L) (n := 256) (by rw [hU])
          have k2 := Pn.cntAll_ok (D := D) (L := X) (n := 256) (by rw [hU'])
          have k3 := Pn.cntAll_bound (D := D) (L := L) 256
          rw [hU] at k1 k3
          rw [hU'] at k2
          have hl1 : U.length = 256 := k1.2.2.1
          have hl2 : U'.length = 256 := k2.2.2.1
          have hRs := Pn.ptReach_small (D := D) (L := L) t
          rw [hR] at hRs
          refine walk_ok D L p q p' q' t b w hD (by omega) hL hg hb8 R X hR hX x1 U U' hU hU' (bump_all (by omega) (fun k hk => by have := hRs.1 k hk; omega) fun j hj => ?_) hl1 k3
          have a1 := (k1.2.2.2 j (by omega)).2
          have a2 := (k2.2.2.2 j (by omega)).2
          rw [List.getD_eq_getElem?_getD, List.getD_eq_getElem?_getD]
          simp only at a1 a2
          rw [a1, a2]
          exact (x2 j).1
        · exact walk_dark D L p q p' q' t b w hD (by omega) hL hg hb8 R X hR hX x1 U U' g' g' hU hU' h3
      · exact walk_not D L p q p' q' t b w hD (by omega) hL hg hb8 R 0 e2 X hR hX (.inl ⟨rfl, h2⟩)
    · have h2 : e2 = e1 := by
        have := Pn.ptShare_err (D := D) (L := L) (l1 := t) (b := b) (by rw [hR]; exact h1)
        rw [hX, hR] at this
        exact (Prod.mk.inj this).2
      exact walk_not D L p q p' q' t b w hD (by omega) hL hg hb8 R e1 e2 X hR hX (.inr ⟨h1, h2⟩)
/-! ### The row -/
theorem own : ownKnob Tryz.prog.godebug = none := by kernel_rfl
set_option maxRecDepth 100000 in
theorem lifted (os : Os) (started : os.Started) (H : Type) (enc : TypeId × Value → H) :
    ReturnsInHanded {} Tryz.checked os 7 .any (Rows.pointAddsSpec.pre6 enc Tryz.prog Tryz.f7 Rows.pointAddsRow.domain false) (Rows.pointAddsSpec.post enc Tryz.prog Tryz.f7 false true false false) := by
  refine returnsInHanded_of_change_sized (C := Tryz.checked) own started (by kernel_rfl) Tryz.func7
    (ChangeSpec.witness6 (enc := enc) (C := Tryz.checked) false ⟨#[], #[.agg #[.string ByteArray.empty, .slice none 0 0, .int .i64 0, .bool false, .slice none 0 0], .agg #[.slice none 0 0, .slice none 0 0], .int .i64 0, .int .i8 0], []⟩ 8 (by kernel_rfl) (by kernel_rfl) (by kernel_rfl) (by kernel_rfl)) ?_
  intro W base args ds gs before hval0 hW hcnd hsz0 _
  have hval : ∀ (j : Nat) t v, Tryz.f7.params[j]? = some t → args[j]? = some v → Value.okWide Tryz.prog W .any base t v := hval0
  have hW' := hW
  obtain ⟨p, q, hA0, hV, rfl, hfz, hnd⟩ := hW
  have hA : DataW.TrodAll enc Tryz.prog W 0 (fun _ => true) true Tryz.f7.params.toList args.toList ds p := hA0
  have hAk := hA
  have hsz : (DataW.weightsEach Tryz.prog (Tryz.f7.params.toList ++ Rows.pointAddsSpec.plain.varTypes Tryz.prog) (ds ++ gs)).all (· ≤ reachBytes) = true := hsz0
  rw [Tryz.params7] at hA hval hsz
  obtain ⟨v0, vs0, d0, ds0, p0, q0, hargs, rfl, rfl, h0, r0⟩ := trodAll_cons hA
  obtain ⟨v1, vs1, d1, ds1, p1, q1, rfl, rfl, rfl, h1, r1⟩ := trodAll_cons r0
  obtain ⟨v2, vs2, d2, ds2, p2, q2, rfl, rfl, rfl, h2, r2⟩ := trodAll_cons r1
  obtain ⟨v3, vs3, d3, ds3, p3, q3, rfl, rfl, rfl, h3, r3⟩ := trodAll_cons r2
  obtain ⟨rfl, rfl, rfl⟩ := trodAll_nil r3
  obtain rfl : args = #[v0, v1, v2, v3] := by cases args; simp_all
  obtain ⟨rfl, rfl⟩ := trodVars_none hV
  obtain ⟨D0, P0, Q0, rfl, w0⟩ := open_dk_sized Tryz.underlying25 (by kernel_rfl) (by kernel_rfl) Tryz.underlying9 Tryz.underlying22 Tryz.underlying3 Tryz.underlying4 Tryz.underlying23 Tryz.underlying163 (by kernel_rfl) (by kernel_rfl) Tryz.underlying3 Tryz.underlying9 Tryz.underlying3 (by kernel_rfl) (hval 0 25 v0 rfl rfl) h0 (weights_each hsz (j := 0) rfl rfl)
  obtain ⟨D1, P1, Q1, rfl, w1⟩ := open_plan Tryz.underlying28 (by kernel_rfl) (by kernel_rfl) Tryz.underlying23 Tryz.underlying26 Tryz.underlying3 (by kernel_rfl) Tryz.underlying9 (by kernel_rfl) (hval 1 28 v1 rfl rfl) h1
  obtain ⟨a2, rfl, rfl, rfl, w2⟩ := open_int Tryz.underlying3 (hval 2 3 v2 rfl rfl) h2
  obtain ⟨a3, rfl, rfl, rfl, w3⟩ := open_int Tryz.underlying66 (hval 3 66 v3 rfl rfl) h3
  clear hA0 hval0
  simp only [List.append_nil] at hW'
  refine (walk W D0 P0 Q0 w0 D1 P1 Q1 w1 a2 w2 a3 w3).mono fun e W' ⟨he, hb⟩ => ?_
  subst he
  exact ⟨_, rfl, post_of_below (pa := _) (pv := []) hW' (fun _ _ _ => (trodAll_cons_mk (shut_bool Tryz.underlying4 _) trodAll_mk0)) (fun sp hsp => trodAll_stays (by kernel_rfl) hb (by kernel_rfl) hAk (fun x hx => hW'.lt x (by simpa using hx)) (fun x hx => hsp x (by simpa using hx))) (fun _ _ => rfl) (by simp) hb (ok_one (by kernel_rfl) rfl (okWide_bool_mk Tryz.underlying4 _))⟩
theorem over_ : Rows.pointAddsRow.holds Tryz.pinned (OpenSpec.ofChange Rows.pointAddsSpec) :=
  OpenClaim.holds_of_wide 7 Tryz.f7 rfl rfl rfl rfl rfl rfl rfl ⟨rfl, rfl, rfl, rfl, rfl⟩ rfl rfl rfl rfl rfl (by kernel_rfl) Tryz.func7 (by kernel_rfl)
    (of_decide_eq_true (by kernel_rfl)) (by unfold Func.isWrapper; first | (rw [if_pos (by decide +kernel)]; kernel_rfl) | (rw [if_neg (by decide +kernel)]; exact ⟨rfl, rfl⟩))
    (fun os started H enc _ => lifted os started H enc)
/-- The statement. -/
theorem proved : Rows.PointAddsSaid := over_
#print axioms proved
end Go.Proofs.YtplgmlcoeehnfaaGreat.pointAdds
