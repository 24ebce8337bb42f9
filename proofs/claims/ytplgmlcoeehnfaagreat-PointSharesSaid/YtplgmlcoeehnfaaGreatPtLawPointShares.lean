/- PointShares: counted oftener, and less often again, all counts are as they were: any device, any plan, any table, any number. No condition. -/
import Derived.Test.YtplgmlcoeehnfaaGreatPtLaw12a
import Derived.Test.YtplgmlcoeehnfaaGreatPtPointsC
import Derived.Test.YtplgmlcoeehnfaaGreatPtPointsD
import Derived.Test.YtplgmlcoeehnfaaGreatPtShareLaw
import Derived.Test.YtplgmlcoeehnfaaGreatPtGood3
import Derived.Test.YtplgmlcoeehnfaaGreatPtOpens
set_option linter.unusedVariables false
namespace Go.Proofs.YtplgmlcoeehnfaaGreat.pointShares
open Go.RowKit Go.Shelf Go.WideShapes Go.ChangeShapes Go.ChangeAt
open Go.ChangeMaps (open_string shut_string)
attribute [local go_sem] bs_mk bs_append bs_extract bs_size bs_toList bs_get

set_option maxRecDepth 100000 in
theorem walk_no (D : Dk) (L : Pn) (p q p' q' : Pl) (t b : Int) (w : World) (h0 : IsDk0 w D p q) (hbl : D.bad.length ≤ 17592186044416) (hL : IsPn w L p' q') (hg : good D L = false) :
    Calls Tryz.prog 6 #[dval D p q, pval L p' q', .int .i64 t, .int .i64 b] w fun e w' => e = .returned (.bool true) ∧ Below w.heap.size w w' := by
  have hG := fun (W : World) (hb : Below w.heap.size w W) => good12 D L p q p' q' 1 8 W (h0.below hb) (hL.below hb) hbl
  rw [hg, Bool.false_and] at hG
  clear h0 hL hg
  obtain ⟨A1, a1⟩ := p
  obtain ⟨A2, a2⟩ := q
  obtain ⟨B1, b1⟩ := p'
  obtain ⟨B2, b2⟩ := q'
  have hB := Below.refl w.heap.size w
  have x := Blk.new w 25 #[.string (bs D.data), .slice A1 D.cache.length a1, .int .i64 D.fuse, .bool D.off, .slice A2 D.bad.length a2]
  have xk := blk5 x
  have hB_1 := hB.alloc hB.size (.cells #[.string (bs D.data), .slice A1 D.cache.length a1, .int .i64 D.fuse, .bool D.off, .slice A2 D.bad.length a2] 25)
  have z := Blk.new (w.alloc (.cells #[.string (bs D.data), .slice A1 D.cache.length a1, .int .i64 D.fuse, .bool D.off, .slice A2 D.bad.length a2] 25)) 28 #[.slice B1 L.targets.length b1, .slice B2 L.data.length b2]
  simp only [World.size_alloc] at z
  have zk := blk2 z
  have hB_2 := hB_1.alloc hB_1.size (.cells #[.slice B1 L.targets.length b1, .slice B2 L.data.length b2] 28)
  have x_3 := x.alloc (.cells #[.slice B1 L.targets.length b1, .slice B2 L.data.length b2] 28)
  have xk_3 := blk5 x_3
  go_enter Tryz.func6, Tryz.ntmps6
  go_wp2_with fail
  go_at_call 13
  refine ((hG _ hB_2)).mono ?_
  rintro e w1 ⟨rfl, hb1⟩
  replace hB := bt hB_2 hb1
  replace x := x_3.below hb1 x_3.lt
  replace xk := blk5 x
  replace z := z.below hb1 z.lt
  replace zk := blk2 z
  clear hB_1 hB_2 xk_3 x_3
  go_wp2_with fail
  go_at_call 14
  refine ((awake12 _)).mono ?_
  rintro e w2 ⟨rfl, hb2⟩
  replace hB := bt hB hb2
  replace x := x.below hb2 x.lt
  replace xk := blk5 x
  replace z := z.below hb2 z.lt
  replace zk := blk2 z
  go_wp2_with fail
  go_ret
  exact ⟨rfl, hB⟩

set_option maxRecDepth 100000 in
theorem walk_not (D : Dk) (L : Pn) (p q p' q' : Pl) (t b : Int) (w : World) (h0 : IsDk0 w D p q) (hbl : D.bad.length ≤ 17592186044416) (hL : IsPn w L p' q') (hg : good D L = true) (hb : okInt b) (er : Int) (hX : Pn.ptShare D L t b = (L, er)) (her : er ≠ 0) :
    Calls Tryz.prog 6 #[dval D p q, pval L p' q', .int .i64 t, .int .i64 b] w fun e w' => e = .returned (.bool true) ∧ Below w.heap.size w w' := by
  obtain ⟨g1, g2, g3, g4⟩ := good_iff.1 hg
  have hD := h0.full (by omega) hbl (by omega)
  have hG := fun (W : World) (hb : Below w.heap.size w W) => good12 D L p q p' q' 1 8 W (h0.below hb) (hL.below hb) hbl
  rw [hg, show geomOk 1 8 = true from rfl, Bool.and_true] at hG
  have hdl := (Dk.fit_parts g3).2.2.1
  have h1 := fun (W : World) (hb' : Below w.heap.size w W) => p_share D L p q p' q' W (hD.below hb') (hL.below hb') g3 g4 t b hb
  rw [hX] at h1
  have hs := fun (W : World) (p1 q1 p2 q2 : Pl) (h : IsPn W L p1 q1) (h' : IsPn W L p2 q2) => r5_same L L p1 q1 p2 q2 W h h' (by have := g4.2.1; omega) (by have := g4.2.1; have := g4.1; omega) (by have := g4.2.1; omega) (by have := g4.2.1; have := g4.1; omega)
  rw [Pn.same_self] at hs
  have hs' := fun (W : World) (hb : Below w.heap.size w W) (p2 q2 : Pl) (h' : IsPn W L p2 q2) => hs W p' q' p2 q2 (hL.below hb) h'
  have n1 : (er != 0) = true := by simpa using her
  clear h0 hL hg hD g1 g2 g3 g4 hdl hb hX her hs
  obtain ⟨A1, a1⟩ := p
  obtain ⟨A2, a2⟩ := q
  obtain ⟨B1, b1⟩ := p'
  obtain ⟨B2, b2⟩ := q'
  have hB := Below.refl w.heap.size w
  have x := Blk.new w 25 #[.string (bs D.data), .slice A1 D.cache.length a1, .int .i64 D.fuse, .bool D.off, .slice A2 D.bad.length a2]
  have xk := blk5 x
  have hB_1 := hB.alloc hB.size (.cells #[.string (bs D.data), .slice A1 D.cache.length a1, .int .i64 D.fuse, .bool D.off, .slice A2 D.bad.length a2] 25)
  have z := Blk.new (w.alloc (.cells #[.string (bs D.data), .slice A1 D.cache.length a1, .int .i64 D.fuse, .bool D.off, .slice A2 D.bad.length a2] 25)) 28 #[.slice B1 L.targets.length b1, .slice B2 L.data.length b2]
  simp only [World.size_alloc] at z
  have zk := blk2 z
  have hB_2 := hB_1.alloc hB_1.size (.cells #[.slice B1 L.targets.length b1, .slice B2 L.data.length b2] 28)
  have x_3 := x.alloc (.cells #[.slice B1 L.targets.length b1, .slice B2 L.data.length b2] 28)
  have xk_3 := blk5 x_3
  go_enter Tryz.func6, Tryz.ntmps6
  go_wp2_with fail
  go_at_call 13
  refine ((hG _ hB_2)).mono ?_
  rintro e w1 ⟨rfl, hb1⟩
  replace hB := bt hB_2 hb1
  replace x := x_3.below hb1 x_3.lt
  replace xk := blk5 x
  replace z := z.below hb1 z.lt
  replace zk := blk2 z
  clear hB_1 hB_2 xk_3 x_3
  go_wp2_with fail
  go_at_call 27
  refine ((h1 _ hB)).mono ?_
  rintro e w4 ⟨⟨pc, qc, rfl, ic, oc⟩, hb4⟩
  replace hB := bt hB hb4
  replace x := x.below hb4 x.lt
  replace xk := blk5 x
  replace z := z.below hb4 z.lt
  replace zk := blk2 z
  have bic := Blk.new w4 28 #[.slice pc.a L.targets.length pc.c, .slice qc.a L.data.length qc.c]
  have bick := blk2 bic
  have hB_4 := hB.alloc hB.size (.cells #[.slice pc.a L.targets.length pc.c, .slice qc.a L.data.length qc.c] 28)
  have x_5 := x.alloc (.cells #[.slice pc.a L.targets.length pc.c, .slice qc.a L.data.length qc.c] 28)
  have xk_5 := blk5 x_5
  have z_6 := z.alloc (.cells #[.slice pc.a L.targets.length pc.c, .slice qc.a L.data.length qc.c] 28)
  have zk_6 := blk2 z_6
  have ic_7 := ic.below ((Below.refl _ _).alloc (Nat.le_refl _) (.cells #[.slice pc.a L.targets.length pc.c, .slice qc.a L.data.length qc.c] 28))
  go_wp2_with fail
  go_at_call 19
  refine ((hs' _ hB_4 pc qc ic_7)).mono ?_
  rintro e w9 ⟨rfl, hb9⟩
  replace hB := bt hB_4 hb9
  replace x := x_5.below hb9 x_5.lt
  replace xk := blk5 x
  replace z := z_6.below hb9 z_6.lt
  replace zk := blk2 z
  replace ic := ic_7.below hb9
  replace bic := bic.below hb9 bic.lt
  replace bick := blk2 bic
  clear hB_4 xk_5 x_5 zk_6 z_6 ic_7
  go_wp2_with fail
  go_at_call 14
  refine ((awake12 _)).mono ?_
  rintro e w11 ⟨rfl, hb11⟩
  replace hB := bt hB hb11
  replace x := x.below hb11 x.lt
  replace xk := blk5 x
  replace z := z.below hb11 z.lt
  replace zk := blk2 z
  replace ic := ic.below hb11
  replace bic := bic.below hb11 bic.lt
  replace bick := blk2 bic
  go_wp2_with fail
  go_ret
  exact ⟨rfl, hB⟩

set_option maxRecDepth 100000 in
set_option maxHeartbeats 2000000 in
theorem walk_ok (D : Dk) (L : Pn) (p q p' q' : Pl) (t b : Int) (w : World) (h0 : IsDk0 w D p q) (hbl : D.bad.length ≤ 17592186044416) (hL : IsPn w L p' q') (hg : good D L = true) (hb : okInt b) (c : Int) (hc : okInt c) (hw : IntKind.i64.wrap (-b) = c) (X Y : Pn)
    (hX : Pn.ptShare D L t b = (X, 0)) (hXf : X.Fit) (hY : Pn.ptShare D X t c = (Y, 0)) (hYf : Y.Fit) (hcnt : Pn.cntAll D Y 64 = Pn.cntAll D L 64) (htg : ∀ o, 96 ≤ o → o ∈ X.targets → o ∈ L.targets) :
    Calls Tryz.prog 6 #[dval D p q, pval L p' q', .int .i64 t, .int .i64 b] w fun e w' => e = .returned (.bool true) ∧ Below w.heap.size w w' := by
  obtain ⟨g1, g2, g3, g4⟩ := good_iff.1 hg
  have hD := h0.full (by omega) hbl (by omega)
  have hG := fun (W : World) (hb : Below w.heap.size w W) => good12 D L p q p' q' 1 8 W (h0.below hb) (hL.below hb) hbl
  rw [hg, show geomOk 1 8 = true from rfl, Bool.and_true] at hG
  have hdl := (Dk.fit_parts g3).2.2.1
  have h1 := fun (W : World) (hb' : Below w.heap.size w W) => p_share D L p q p' q' W (hD.below hb') (hL.below hb') g3 g4 t b hb
  rw [hX] at h1
  have h2 := fun (W : World) (hb' : Below w.heap.size w W) (p1 q1 : Pl) (h : IsPn W X p1 q1) => p_share D X p q p1 q1 W (hD.below hb') h g3 hXf t c hc
  rw [hY] at h2
  have h3 := fun (W : World) (p1 q1 : Pl) (h : IsPn W X p1 q1) => r5_fit X p1 q1 W h
  rw [Pn.fit_iff.2 hXf] at h3
  have h4 := fun (W : World) (p1 q1 : Pl) (h : IsPn W Y p1 q1) => r5_fit Y p1 q1 W h
  rw [Pn.fit_iff.2 hYf] at h4
  have h5 := fun (W : World) (hb' : Below w.heap.size w W) => r8_all D L p q p' q' W (hD.below hb') (hL.below hb') g3 g4 64
  have h6 := fun (W : World) (hb' : Below w.heap.size w W) (p1 q1 : Pl) (h : IsPn W Y p1 q1) => r8_all D Y p q p1 q1 W (hD.below hb') h g3 hYf 64
  rw [hcnt] at h6
  have h7 := fun (W : World) (hb' : Below w.heap.size w W) (k : Int) => r5_find L p' q' k W (hL.below hb') (by have := g4.2.1; omega)
  have hcl := Pn.cntAll_len (D := D) (L := L) 64
  generalize Pn.cntAll D L 64 = S1 at h5 h6 hcl
  obtain ⟨R, e1⟩ := S1
  simp only at h5 h6 hcl
  have hJ := fun (W : World) (A B : Option Addr) (c d : Nat) (hA : Cells W A (intCells R)) (hB : Cells W B (intCells R)) => ints12 R A B c d W hA hB (by omega)
  have hxl : X.targets.length ≤ 24 := hXf.2.1
  have hfind : ∀ o, 96 ≤ o → o ∈ X.targets → ∃ k : Nat, L.find o = k := fun o ho hm => by
    obtain ⟨i, _, h, _⟩ := Pn.find_in (htg o ho hm)
    exact ⟨i, h⟩
  have Hf := hid hfind
  have Hl := hid hxl
  clear h0 hL hg hD g1 g2 g3 g4 hdl hb hc hX hXf hY hYf hcnt htg hcl hfind hxl
  obtain ⟨A1, a1⟩ := p
  obtain ⟨A2, a2⟩ := q
  obtain ⟨B1, b1⟩ := p'
  obtain ⟨B2, b2⟩ := q'
  have hB := Below.refl w.heap.size w
  have x := Blk.new w 25 #[.string (bs D.data), .slice A1 D.cache.length a1, .int .i64 D.fuse, .bool D.off, .slice A2 D.bad.length a2]
  have xk := blk5 x
  have hB_1 := hB.alloc hB.size (.cells #[.string (bs D.data), .slice A1 D.cache.length a1, .int .i64 D.fuse, .bool D.off, .slice A2 D.bad.length a2] 25)
  have z := Blk.new (w.alloc (.cells #[.string (bs D.data), .slice A1 D.cache.length a1, .int .i64 D.fuse, .bool D.off, .slice A2 D.bad.length a2] 25)) 28 #[.slice B1 L.targets.length b1, .slice B2 L.data.length b2]
  simp only [World.size_alloc] at z
  have zk := blk2 z
  have hB_2 := hB_1.alloc hB_1.size (.cells #[.slice B1 L.targets.length b1, .slice B2 L.data.length b2] 28)
  have x_3 := x.alloc (.cells #[.slice B1 L.targets.length b1, .slice B2 L.data.length b2] 28)
  have xk_3 := blk5 x_3
  go_enter Tryz.func6, Tryz.ntmps6
  go_wp2_with fail
  go_at_call 13
  refine ((hG _ hB_2)).mono ?_
  rintro e w1 ⟨rfl, hb1⟩
  replace hB := bt hB_2 hb1
  replace x := x_3.below hb1 x_3.lt
  replace xk := blk5 x
  replace z := z.below hb1 z.lt
  replace zk := blk2 z
  clear hB_1 hB_2 xk_3 x_3
  go_wp2_with fail
  go_at_call 27
  refine ((h1 _ hB)).mono ?_
  rintro e w2 ⟨⟨pc, qc, rfl, ic, oc⟩, hb2⟩
  replace hB := bt hB hb2
  replace x := x.below hb2 x.lt
  replace xk := blk5 x
  replace z := z.below hb2 z.lt
  replace zk := blk2 z
  have bic := Blk.new w2 28 #[.slice pc.a X.targets.length pc.c, .slice qc.a X.data.length qc.c]
  have bick := blk2 bic
  have hB_4 := hB.alloc hB.size (.cells #[.slice pc.a X.targets.length pc.c, .slice qc.a X.data.length qc.c] 28)
  have x_5 := x.alloc (.cells #[.slice pc.a X.targets.length pc.c, .slice qc.a X.data.length qc.c] 28)
  have xk_5 := blk5 x_5
  have z_6 := z.alloc (.cells #[.slice pc.a X.targets.length pc.c, .slice qc.a X.data.length qc.c] 28)
  have zk_6 := blk2 z_6
  have ic_7 := ic.below ((Below.refl _ _).alloc (Nat.le_refl _) (.cells #[.slice pc.a X.targets.length pc.c, .slice qc.a X.data.length qc.c] 28))
  go_wp2_with fail
  go_at_call 27
  refine ((h2 _ hB_4 pc qc ic_7)).mono ?_
  rintro e w3 ⟨⟨pd, qd, rfl, ir, od⟩, hb3⟩
  replace hB := bt hB_4 hb3
  replace x := x_5.below hb3 x_5.lt
  replace xk := blk5 x
  replace z := z_6.below hb3 z_6.lt
  replace zk := blk2 z
  replace ic := ic_7.below hb3
  replace bic := bic.below hb3 bic.lt
  replace bick := blk2 bic
  clear hB_4 xk_5 x_5 zk_6 z_6 ic_7
  have bir := Blk.new w3 28 #[.slice pd.a Y.targets.length pd.c, .slice qd.a Y.data.length qd.c]
  have birk := blk2 bir
  have hB_8 := hB.alloc hB.size (.cells #[.slice pd.a Y.targets.length pd.c, .slice qd.a Y.data.length qd.c] 28)
  have x_9 := x.alloc (.cells #[.slice pd.a Y.targets.length pd.c, .slice qd.a Y.data.length qd.c] 28)
  have xk_9 := blk5 x_9
  have z_10 := z.alloc (.cells #[.slice pd.a Y.targets.length pd.c, .slice qd.a Y.data.length qd.c] 28)
  have zk_10 := blk2 z_10
  have ic_11 := ic.below ((Below.refl _ _).alloc (Nat.le_refl _) (.cells #[.slice pd.a Y.targets.length pd.c, .slice qd.a Y.data.length qd.c] 28))
  have bic_12 := bic.alloc (.cells #[.slice pd.a Y.targets.length pd.c, .slice qd.a Y.data.length qd.c] 28)
  have bick_12 := blk2 bic_12
  have ir_13 := ir.below ((Below.refl _ _).alloc (Nat.le_refl _) (.cells #[.slice pd.a Y.targets.length pd.c, .slice qd.a Y.data.length qd.c] 28))
  go_wp2_with fail
  go_at_call 18
  refine ((h3 _ pc qc ic_11)).mono ?_
  rintro e w4 ⟨rfl, hb4⟩
  replace hB := bt hB_8 hb4
  replace x := x_9.below hb4 x_9.lt
  replace xk := blk5 x
  replace z := z_10.below hb4 z_10.lt
  replace zk := blk2 z
  replace ic := ic_11.below hb4
  replace bic := bic_12.below hb4 bic_12.lt
  replace bick := blk2 bic
  replace ir := ir_13.below hb4
  replace bir := bir.below hb4 bir.lt
  replace birk := blk2 bir
  clear hB_8 xk_9 x_9 zk_10 z_10 ic_11 bick_12 bic_12 ir_13
  go_wp2_with fail
  go_at_call 18
  refine ((h4 _ pd qd ir)).mono ?_
  rintro e w5 ⟨rfl, hb5⟩
  replace hB := bt hB hb5
  replace x := x.below hb5 x.lt
  replace xk := blk5 x
  replace z := z.below hb5 z.lt
  replace zk := blk2 z
  replace ic := ic.below hb5
  replace bic := bic.below hb5 bic.lt
  replace bick := blk2 bic
  replace ir := ir.below hb5
  replace bir := bir.below hb5 bir.lt
  replace birk := blk2 bir
  go_wp2_with fail
  go_at_call 30
  refine ((h5 _ hB)).mono ?_
  rintro e w6 ⟨⟨v1, rfl, own1⟩, hb6⟩
  replace hB := bt hB hb6
  replace x := x.below hb6 x.lt
  replace xk := blk5 x
  replace z := z.below hb6 z.lt
  replace zk := blk2 z
  replace ic := ic.below hb6
  replace bic := bic.below hb6 bic.lt
  replace bick := blk2 bic
  replace ir := ir.below hb6
  replace bir := bir.below hb6 bir.lt
  replace birk := blk2 bir
  obtain ⟨C1, c1, rfl, _⟩ := own_slice own1
  have cc1 := Cells.of_own own1
  go_wp2_with fail
  go_at_call 30
  refine ((h6 _ hB pd qd ir)).mono ?_
  rintro e w7 ⟨⟨v2, rfl, own2⟩, hb7⟩
  replace hB := bt hB hb7
  replace x := x.below hb7 x.lt
  replace xk := blk5 x
  replace z := z.below hb7 z.lt
  replace zk := blk2 z
  replace ic := ic.below hb7
  replace bic := bic.below hb7 bic.lt
  replace bick := blk2 bic
  replace ir := ir.below hb7
  replace bir := bir.below hb7 bir.lt
  replace birk := blk2 bir
  replace cc1 := cc1.below hb7
  obtain ⟨C2, c2, rfl, _⟩ := own_slice own2
  have cc2 := Cells.of_own own2
  have hbx := hB
  have i4 := (ic).targets
  have zz := z
  have dd1 := cc1
  have dd2 := cc2
  obtain ⟨D1, d1⟩ := pc
  obtain ⟨D2, d2⟩ := qc
  simp only at i4
  go_wp2_with fail
  go_loopw [74] (fun x W => ∃ i : Nat, i ≤ X.targets.length ∧ x = .int .i64 i ∧ Below w7.heap.size w7 W) (fun x _ => X.targets.length - (intOf x).toNat)
  case atStart => exact ⟨0, Nat.zero_le _, rfl, Below.refl _ _⟩
  case round =>
    obtain ⟨i, hi, rfl, hw⟩ := hrel
    have hxl := Hl.out
    have z9 := zz.below hw zz.lt
    have z9k := blk2 z9
    by_cases hlt : i < X.targets.length
    · obtain ⟨pb, po, hpa, hcell⟩ := (i4.below hw).int hlt
      subst hpa
      have y0 := hcell i hlt
      have hm : X.targets[i] ∈ X.targets := List.getElem_mem hlt
      clear hcell
      generalize X.targets[i] = o at y0 hm
      by_cases ho : 96 ≤ o
      · obtain ⟨k, hk⟩ := Hf.out o ho hm
        have e1 : decide (96 ≤ o) = true := by simpa using ho
        have e2 : decide ((k : Int) < 0) = false := by simp
        have hF := h7 _ (bt hbx hw) o
        rw [hk] at hF
        clear ho hm hk
        go_wp2_with fail
        go_at_call 31
        refine hF.mono ?_
        rintro e w8 ⟨rfl, hb8⟩
        go_wp2_with fail
        go_roundw
        case rel => exact ⟨i + 1, by omega, by go_num, bt hw hb8⟩
        case measure => simp [intOf]; omega
      · have e1 : decide (96 ≤ o) = false := by simpa using ho
        clear ho hm
        go_wp2_with fail
        go_roundw
        case rel => exact ⟨i + 1, by omega, by go_num, hw⟩
        case measure => simp [intOf]; omega
    · obtain rfl : i = X.targets.length := by omega
      have hI := hJ _ C1 C2 c1 c2 (dd1.below hw) (dd2.below hw)
      go_wp2_with fail
      go_at_call 29
      refine hI.mono ?_
      rintro e w8 ⟨rfl, hb8⟩
      go_wp2_with fail
      go_at_call 14
      refine (awake12 _).mono ?_
      rintro e w9 ⟨rfl, hb9⟩
      go_wp2_with fail
      go_ret
      exact ⟨rfl, bt (bt (bt hbx hw) hb8) hb9⟩
theorem walk (w : World) (D : Dk) (p q : Pl) (hD : IsDk0 w D p q ∧ D.cache.length * Tryz.prog.bytesOf 163 ≤ reachBytes ∧ D.bad.length * Tryz.prog.bytesOf 3 ≤ reachBytes) (L : Pn) (p' q' : Pl) (hL : IsPn w L p' q') (t : Int) (wt : (Lit.int .i64 t).wf = true) (b : Int) (wb : (Lit.int .i64 b).wf = true) :
    Calls Tryz.prog 6 #[dval D p q, pval L p' q', .int .i64 t, .int .i64 b] w fun e w' => e = .returned (.bool true) ∧ Below w.heap.size w w' := by
  obtain ⟨hD, c1, b1⟩ := hD
  rw [show Tryz.prog.bytesOf 3 = 8 by kernel_rfl] at b1
  unfold reachBytes at b1
  cases hg : good D L with
  | false => exact walk_no D L p q p' q' t b w hD (by omega) hL hg
  | true =>
    obtain ⟨_, _, g3, g4⟩ := good_iff.1 hg
    have hb := okInt_of wb
    obtain ⟨X, er, hX⟩ : ∃ X er, Pn.ptShare D L t b = (X, er) := ⟨_, _, rfl⟩
    by_cases her : er = 0
    · subst her
      obtain ⟨x1, x2, x3⟩ := Pn.ptShare_counts g3 g4 hX
      obtain ⟨c, hw, hc, hcb⟩ : ∃ c, IntKind.i64.wrap (-b) = c ∧ okInt c ∧ (c = -b ∨ b < -65535) := by
        by_cases hm : b = -9223372036854775808
        · subst hm; exact ⟨-9223372036854775808, by decide, by decide, .inr (by decide)⟩
        · unfold okInt at hb ⊢
          exact ⟨-b, i64w (by omega), by omega, .inl rfl⟩
      obtain ⟨Y, y1, y2, y3⟩ := Pn.ptShare_back g3 g4 hX hcb
      exact walk_ok D L p q p' q' t b w hD (by omega) hL hg hb c hc hw X Y hX x1 y1 y2 (Pn.cntAll_congr y3 64) x3
    · have hn : X = L := by
        have := Pn.ptShare_not (D := D) (L := L) (l1 := t) (b := b) (by rw [hX]; exact her)
        rw [hX] at this
        exact this
      subst hn
      exact walk_not D X p q p' q' t b w hD (by omega) hL hg hb er hX her
/-! ### The row -/
theorem own : ownKnob Tryz.prog.godebug = none := by kernel_rfl
set_option maxRecDepth 100000 in
theorem lifted (os : Os) (started : os.Started) (H : Type) (enc : TypeId × Value → H) :
    ReturnsInHanded {} Tryz.checked os 6 .any (Rows.pointSharesSpec.pre6 enc Tryz.prog Tryz.f6 Rows.pointSharesRow.domain false) (Rows.pointSharesSpec.post enc Tryz.prog Tryz.f6 false true false false) := by
  refine returnsInHanded_of_change_sized (C := Tryz.checked) own started (by kernel_rfl) Tryz.func6
    (ChangeSpec.witness6 (enc := enc) (C := Tryz.checked) false ⟨#[], #[.agg #[.string ByteArray.empty, .slice none 0 0, .int .i64 0, .bool false, .slice none 0 0], .agg #[.slice none 0 0, .slice none 0 0], .int .i64 0, .int .i64 0], []⟩ 8 (by kernel_rfl) (by kernel_rfl) (by kernel_rfl) (by kernel_rfl)) ?_
  intro W base args ds gs before hval0 hW hcnd hsz0 _
  have hval : ∀ (j : Nat) t v, Tryz.f6.params[j]? = some t → args[j]? = some v → Value.okWide Tryz.prog W .any base t v := hval0
  have hW' := hW
  obtain ⟨p, q, hA0, hV, rfl, hfz, hnd⟩ := hW
  have hA : DataW.TrodAll enc Tryz.prog W 0 (fun _ => true) true Tryz.f6.params.toList args.toList ds p := hA0
  have hAk := hA
  have hsz : (DataW.weightsEach Tryz.prog (Tryz.f6.params.toList ++ Rows.pointSharesSpec.plain.varTypes Tryz.prog) (ds ++ gs)).all (· ≤ reachBytes) = true := hsz0
  rw [Tryz.params6] at hA hval hsz
  obtain ⟨v0, vs0, d0, ds0, p0, q0, hargs, rfl, rfl, h0, r0⟩ := trodAll_cons hA
  obtain ⟨v1, vs1, d1, ds1, p1, q1, rfl, rfl, rfl, h1, r1⟩ := trodAll_cons r0
  obtain ⟨v2, vs2, d2, ds2, p2, q2, rfl, rfl, rfl, h2, r2⟩ := trodAll_cons r1
  obtain ⟨v3, vs3, d3, ds3, p3, q3, rfl, rfl, rfl, h3, r3⟩ := trodAll_cons r2
  obtain ⟨rfl, rfl, rfl⟩ := trodAll_nil r3
  obtain rfl : args = #[v0, v1, v2, v3] := by cases args; simp_all
  obtain ⟨rfl, rfl⟩ := trodVars_none hV
  obtain ⟨D0, P0, Q0, rfl, w0⟩ := open_dk_sized Tryz.underlying25 (by kernel_rfl) (by kernel_rfl) Tryz.underlying9 Tryz.underlying22 Tryz.underlying3 Tryz.underlying4 Tryz.underlying23 Tryz.underlying163 (by kernel_rfl) (by kernel_rfl) Tryz.underlying3 Tryz.underlying9 Tryz.underlying3 (by kernel_rfl) (hval 0 25 v0 rfl rfl) h0 (weights_each hsz (j := 0) rfl rfl)
  obtain ⟨D1, P1, Q1, rfl, w1⟩ := open_plan Tryz.underlying28 (by kernel_rfl) (by kernel_rfl) Tryz.underlying23 Tryz.underlying26 Tryz.underlying3 (by kernel_rfl) Tryz.underlying9 (by kernel_rfl) (hval 1 28 v1 rfl rfl) h1
  obtain ⟨a2, rfl, rfl, rfl, w2⟩ := open_int Tryz.underlying3 (hval 2 3 v2 rfl rfl) h2
  obtain ⟨a3, rfl, rfl, rfl, w3⟩ := open_int Tryz.underlying3 (hval 3 3 v3 rfl rfl) h3
  clear hA0 hval0
  simp only [List.append_nil] at hW'
  refine (walk W D0 P0 Q0 w0 D1 P1 Q1 w1 a2 w2 a3 w3).mono fun e W' ⟨he, hb⟩ => ?_
  subst he
  exact ⟨_, rfl, post_of_below (pa := _) (pv := []) hW' (fun _ _ _ => (trodAll_cons_mk (shut_bool Tryz.underlying4 _) trodAll_mk0)) (fun sp hsp => trodAll_stays (by kernel_rfl) hb (by kernel_rfl) hAk (fun x hx => hW'.lt x (by simpa using hx)) (fun x hx => hsp x (by simpa using hx))) (fun _ _ => rfl) (by simp) hb (ok_one (by kernel_rfl) rfl (okWide_bool_mk Tryz.underlying4 _))⟩
theorem over_ : Rows.pointSharesRow.holds Tryz.pinned (OpenSpec.ofChange Rows.pointSharesSpec) :=
  OpenClaim.holds_of_wide 6 Tryz.f6 rfl rfl rfl rfl rfl rfl rfl ⟨rfl, rfl, rfl, rfl, rfl⟩ rfl rfl rfl rfl rfl (by kernel_rfl) Tryz.func6 (by kernel_rfl)
    (of_decide_eq_true (by kernel_rfl)) (by unfold Func.isWrapper; first | (rw [if_pos (by decide +kernel)]; kernel_rfl) | (rw [if_neg (by decide +kernel)]; exact ⟨rfl, rfl⟩))
    (fun os started H enc _ => lifted os started H enc)
/-- The statement. -/
theorem proved : Rows.PointSharesSaid := over_
#print axioms proved
end Go.Proofs.YtplgmlcoeehnfaaGreat.pointShares
