/- TableAll: all that a first table has is each one's: any device, any plan, any table, any cluster. No condition. -/
import Derived.Test.YtlajbmmhgflabaaLaw11a
import Derived.Test.YtlajbmmhgflabaaLaw08b
import Derived.Test.YtlajbmmhgflabaaOpen
import Derived.Test.YtlajbmmhgflabaaShut
set_option linter.unusedVariables false
namespace Go.Proofs.Ytlajbmmhgflabaa.tableAll
open Go.RowKit Go.Shelf Go.WideShapes Go.ChangeShapes Go.ChangeAt
open Go.ChangeMaps (open_string shut_string)
attribute [local go_sem] bs_mk bs_append bs_extract bs_size bs_toList bs_get

set_option maxRecDepth 100000 in
theorem walk_no (D : Dk) (L : Pn) (p q p' q' : Pl) (t k : Int) (w : World) (h0 : IsDk0 w D p q) (hbl : D.bad.length ≤ 17592186044416) (hL : IsPn w L p' q') (hg : good D L = false) :
    Calls Try.prog 7 #[dval D p q, pval L p' q', .int .i64 t, .int .i64 k] w fun e w' => e = .returned (.bool true) ∧ Below w.heap.size w w' := by
  have hG := fun (W : World) (hb : Below w.heap.size w W) => good11 D L p q p' q' W (h0.below hb) (hL.below hb) hbl
  rw [hg] at hG
  clear h0 hL hg
  obtain ⟨A1, a1⟩ := p
  obtain ⟨A2, a2⟩ := q
  obtain ⟨B1, b1⟩ := p'
  obtain ⟨B2, b2⟩ := q'
  have hB := Below.refl w.heap.size w
  have x := Blk.new w 25 #[.string (bs D.data), .slice A1 D.cache.length a1, .int .i64 D.fuse, .bool D.off, .slice A2 D.bad.length a2]
  have xk := blk5 x
  have hB_1 := hB.alloc hB.size (.cells #[.string (bs D.data), .slice A1 D.cache.length a1, .int .i64 D.fuse, .bool D.off, .slice A2 D.bad.length a2] 25)
  have z := Blk.new (w.alloc (.cells #[.string (bs D.data), .slice A1 D.cache.length a1, .int .i64 D.fuse, .bool D.off, .slice A2 D.bad.length a2] 25)) 28 #[.slice B1 L.targets.length b1, .slice B2 L.data.length b2]
  simp only [World.size_alloc] at z
  have zk := blk2 z
  have hB_2 := hB_1.alloc hB_1.size (.cells #[.slice B1 L.targets.length b1, .slice B2 L.data.length b2] 28)
  have x_3 := x.alloc (.cells #[.slice B1 L.targets.length b1, .slice B2 L.data.length b2] 28)
  have xk_3 := blk5 x_3
  go_enter Try.func7, Try.ntmps7
  go_wp2_with fail
  go_at_call 23
  refine ((hG _ hB_2)).mono ?_
  rintro e w1 ⟨rfl, hb1⟩
  replace hB := bt hB_2 hb1
  replace x := x_3.below hb1 x_3.lt
  replace xk := blk5 x
  replace z := z.below hb1 z.lt
  replace zk := blk2 z
  clear hB_1 hB_2 xk_3 x_3
  go_wp2_with fail
  go_at_call 24
  refine ((awake11 _)).mono ?_
  rintro e w2 ⟨rfl, hb2⟩
  replace hB := bt hB hb2
  replace x := x.below hb2 x.lt
  replace xk := blk5 x
  replace z := z.below hb2 z.lt
  replace zk := blk2 z
  go_wp2_with fail
  go_ret
  exact ⟨rfl, hB⟩

set_option maxRecDepth 100000 in
theorem walk_err (D : Dk) (L : Pn) (p q p' q' : Pl) (t k : Int) (w : World) (h0 : IsDk0 w D p q) (hbl : D.bad.length ≤ 17592186044416) (hL : IsPn w L p' q') (hg : good D L = true) (u : Int) (he : Pn.tabAll D L t = ([], u)) (hu : u ≠ 0) :
    Calls Try.prog 7 #[dval D p q, pval L p' q', .int .i64 t, .int .i64 k] w fun e w' => e = .returned (.bool true) ∧ Below w.heap.size w w' := by
  obtain ⟨g1, g2, g3, g4⟩ := good_iff.1 hg
  have hD := h0.full (by omega) hbl (by omega)
  have hG := fun (W : World) (hb : Below w.heap.size w W) => good11 D L p q p' q' W (h0.below hb) (hL.below hb) hbl
  rw [hg] at hG
  have hdl := (Dk.fit_parts g3).2.2.1
  have h5 := fun (W : World) (hb : Below w.heap.size w W) => t_all D L p q p' q' W (hD.below hb) (hL.below hb) g3 g4 t
  have h4 := fun (W : World) (hb : Below w.heap.size w W) => t11_find D L p q p' q' W (hD.below hb) (hL.below hb) g3 g4 t k
  rw [he] at h5
  generalize Pn.tabFind D L t k = X at h4
  obtain ⟨⟨X, Y⟩, x'⟩ := X
  simp only at h4
  have n1 : (u != 0) = true := by simpa using hu
  clear h0 hL hg hD g1 g2 g3 g4 hdl he hu
  obtain ⟨A1, a1⟩ := p
  obtain ⟨A2, a2⟩ := q
  obtain ⟨B1, b1⟩ := p'
  obtain ⟨B2, b2⟩ := q'
  have hB := Below.refl w.heap.size w
  have x := Blk.new w 25 #[.string (bs D.data), .slice A1 D.cache.length a1, .int .i64 D.fuse, .bool D.off, .slice A2 D.bad.length a2]
  have xk := blk5 x
  have hB_1 := hB.alloc hB.size (.cells #[.string (bs D.data), .slice A1 D.cache.length a1, .int .i64 D.fuse, .bool D.off, .slice A2 D.bad.length a2] 25)
  have z := Blk.new (w.alloc (.cells #[.string (bs D.data), .slice A1 D.cache.length a1, .int .i64 D.fuse, .bool D.off, .slice A2 D.bad.length a2] 25)) 28 #[.slice B1 L.targets.length b1, .slice B2 L.data.length b2]
  simp only [World.size_alloc] at z
  have zk := blk2 z
  have hB_2 := hB_1.alloc hB_1.size (.cells #[.slice B1 L.targets.length b1, .slice B2 L.data.length b2] 28)
  have x_3 := x.alloc (.cells #[.slice B1 L.targets.length b1, .slice B2 L.data.length b2] 28)
  have xk_3 := blk5 x_3
  go_enter Try.func7, Try.ntmps7
  go_wp2_with fail
  go_at_call 23
  refine ((hG _ hB_2)).mono ?_
  rintro e w1 ⟨rfl, hb1⟩
  replace hB := bt hB_2 hb1
  replace x := x_3.below hb1 x_3.lt
  replace xk := blk5 x
  replace z := z.below hb1 z.lt
  replace zk := blk2 z
  clear hB_1 hB_2 xk_3 x_3
  go_wp2_with fail
  go_at_call 29
  refine ((h5 _ hB)).mono ?_
  rintro e w2 ⟨⟨v1, rfl, own1⟩, hb2⟩
  replace hB := bt hB hb2
  replace x := x.below hb2 x.lt
  replace xk := blk5 x
  replace z := z.below hb2 z.lt
  replace zk := blk2 z
  obtain ⟨C1, c1, rfl, _⟩ := own_slice own1
  have cc0 := Cells.of_own own1
  go_wp2_with fail
  go_at_call 28
  refine ((h4 _ hB)).mono ?_
  rintro e w3 ⟨rfl, hb3⟩
  replace hB := bt hB hb3
  replace x := x.below hb3 x.lt
  replace xk := blk5 x
  replace z := z.below hb3 z.lt
  replace zk := blk2 z
  replace cc0 := cc0.below hb3
  have ed := Blk.new w3 49 #[.int .i64 X, .int .i64 Y]
  have edk := blk2 ed
  have hB_4 := hB.alloc hB.size (.cells #[.int .i64 X, .int .i64 Y] 49)
  have x_5 := x.alloc (.cells #[.int .i64 X, .int .i64 Y] 49)
  have xk_5 := blk5 x_5
  have z_6 := z.alloc (.cells #[.int .i64 X, .int .i64 Y] 49)
  have zk_6 := blk2 z_6
  have cc0_7 := cc0.below ((Below.refl _ _).alloc (Nat.le_refl _) (.cells #[.int .i64 X, .int .i64 Y] 49))
  go_wp2_with fail
  go_at_call 24
  refine ((awake11 _)).mono ?_
  rintro e w9 ⟨rfl, hb9⟩
  replace hB := bt hB_4 hb9
  replace x := x_5.below hb9 x_5.lt
  replace xk := blk5 x
  replace z := z_6.below hb9 z_6.lt
  replace zk := blk2 z
  replace cc0 := cc0_7.below hb9
  replace ed := ed.below hb9 ed.lt
  replace edk := blk2 ed
  clear hB_4 xk_5 x_5 zk_6 z_6 cc0_7
  go_wp2_with fail
  go_ret
  exact ⟨rfl, hB⟩

set_option maxRecDepth 100000 in
theorem walk_out (D : Dk) (L : Pn) (p q p' q' : Pl) (t k : Int) (w : World) (h0 : IsDk0 w D p q) (hbl : D.bad.length ≤ 17592186044416) (hL : IsPn w L p' q') (hg : good D L = true) (U : List (Int × Int)) (he : Pn.tabAll D L t = (U, 0)) (hU : U.length = 64) (hk : k < 0 ∨ 64 ≤ k) :
    Calls Try.prog 7 #[dval D p q, pval L p' q', .int .i64 t, .int .i64 k] w fun e w' => e = .returned (.bool true) ∧ Below w.heap.size w w' := by
  obtain ⟨g1, g2, g3, g4⟩ := good_iff.1 hg
  have hD := h0.full (by omega) hbl (by omega)
  have hG := fun (W : World) (hb : Below w.heap.size w W) => good11 D L p q p' q' W (h0.below hb) (hL.below hb) hbl
  rw [hg] at hG
  have hdl := (Dk.fit_parts g3).2.2.1
  have h5 := fun (W : World) (hb : Below w.heap.size w W) => t_all D L p q p' q' W (hD.below hb) (hL.below hb) g3 g4 t
  have h4 := fun (W : World) (hb : Below w.heap.size w W) => t11_find D L p q p' q' W (hD.below hb) (hL.below hb) g3 g4 t k
  rw [he] at h5
  rw [show Pn.tabFind D L t k = ((0, 0), 10) by rw [Pn.tabFind, if_pos hk]] at h4
  obtain ⟨X, hX⟩ : ∃ X : Int, X = 0 := ⟨_, rfl⟩
  obtain ⟨Y, hY⟩ : ∃ Y : Int, Y = 0 := ⟨_, rfl⟩
  simp only at h4
  rw [show eval2 0 0 = eval2 X Y by rw [hX, hY]] at h4
  have n1 : ((U.length : Int) != 64) = false := by simp [hU]
  have H3 := hid hU
  have k1 : 64 ≤ k → decide ((U.length : Int) ≤ k) = true := fun h => by simp; omega
  clear h0 hL hg hD g1 g2 g3 g4 hdl he hX hY hU
  obtain ⟨A1, a1⟩ := p
  obtain ⟨A2, a2⟩ := q
  obtain ⟨B1, b1⟩ := p'
  obtain ⟨B2, b2⟩ := q'
  have hB := Below.refl w.heap.size w
  have x := Blk.new w 25 #[.string (bs D.data), .slice A1 D.cache.length a1, .int .i64 D.fuse, .bool D.off, .slice A2 D.bad.length a2]
  have xk := blk5 x
  have hB_1 := hB.alloc hB.size (.cells #[.string (bs D.data), .slice A1 D.cache.length a1, .int .i64 D.fuse, .bool D.off, .slice A2 D.bad.length a2] 25)
  have z := Blk.new (w.alloc (.cells #[.string (bs D.data), .slice A1 D.cache.length a1, .int .i64 D.fuse, .bool D.off, .slice A2 D.bad.length a2] 25)) 28 #[.slice B1 L.targets.length b1, .slice B2 L.data.length b2]
  simp only [World.size_alloc] at z
  have zk := blk2 z
  have hB_2 := hB_1.alloc hB_1.size (.cells #[.slice B1 L.targets.length b1, .slice B2 L.data.length b2] 28)
  have x_3 := x.alloc (.cells #[.slice B1 L.targets.length b1, .slice B2 L.data.length b2] 28)
  have xk_3 := blk5 x_3
  go_enter Try.func7, Try.ntmps7
  go_wp2_with fail
  go_at_call 23
  refine ((hG _ hB_2)).mono ?_
  rintro e w1 ⟨rfl, hb1⟩
  replace hB := bt hB_2 hb1
  replace x := x_3.below hb1 x_3.lt
  replace xk := blk5 x
  replace z := z.below hb1 z.lt
  replace zk := blk2 z
  clear hB_1 hB_2 xk_3 x_3
  go_wp2_with fail
  go_at_call 29
  refine ((h5 _ hB)).mono ?_
  rintro e w2 ⟨⟨v1, rfl, own1⟩, hb2⟩
  replace hB := bt hB hb2
  replace x := x.below hb2 x.lt
  replace xk := blk5 x
  replace z := z.below hb2 z.lt
  replace zk := blk2 z
  obtain ⟨C1, c1, rfl, _⟩ := own_slice own1
  have cc0 := Cells.of_own own1
  go_wp2_with fail
  go_at_call 28
  refine ((h4 _ hB)).mono ?_
  rintro e w3 ⟨rfl, hb3⟩
  replace hB := bt hB hb3
  replace x := x.below hb3 x.lt
  replace xk := blk5 x
  replace z := z.below hb3 z.lt
  replace zk := blk2 z
  replace cc0 := cc0.below hb3
  have ed := Blk.new w3 49 #[.int .i64 X, .int .i64 Y]
  have edk := blk2 ed
  have hB_4 := hB.alloc hB.size (.cells #[.int .i64 X, .int .i64 Y] 49)
  have x_5 := x.alloc (.cells #[.int .i64 X, .int .i64 Y] 49)
  have xk_5 := blk5 x_5
  have z_6 := z.alloc (.cells #[.int .i64 X, .int .i64 Y] 49)
  have zk_6 := blk2 z_6
  have cc0_7 := cc0.below ((Below.refl _ _).alloc (Nat.le_refl _) (.cells #[.int .i64 X, .int .i64 Y] 49))
  by_cases hk0 : k < 0
  · clear hk k1
    go_wp2_with fail
    generalize (w3.alloc (.cells #[.int .i64 X, .int .i64 Y] 49)) = V at hB_4 x_5 xk_5 z_6 zk_6 cc0_7 ed edk ⊢
    clear hB x z cc0 xk zk
    have hB := hB_4
    have x := x_5
    have xk := xk_5
    have z := z_6
    have zk := zk_6
    have cc0 := cc0_7
    clear hB_4 x_5 xk_5 z_6 zk_6 cc0_7
    have K0 := ext2 ed
    have haw := fun e : Ext V => awake11 e.world
    refine wp_region_ext mixed (by kernel_rfl) ?_
    repeat (go_big_quiet_step (((go_at_call 24; with_reducible exact ext_of (haw _)))))
    refine wpQuiet_nil ?_
    rintro _ ⟨⟨W9, hb9⟩, rfl⟩
    go_wp2_with fail
    go_ret
    exact ⟨rfl, bt hB hb9⟩
  · have hk1 := k1 (by omega)
    have hk2 : decide (k < 0) = false := by simpa using hk0
    clear hk k1
    go_wp2_with fail
    generalize (w3.alloc (.cells #[.int .i64 X, .int .i64 Y] 49)) = V at hB_4 x_5 xk_5 z_6 zk_6 cc0_7 ed edk ⊢
    clear hB x z cc0 xk zk
    have hB := hB_4
    have x := x_5
    have xk := xk_5
    have z := z_6
    have zk := zk_6
    have cc0 := cc0_7
    clear hB_4 x_5 xk_5 z_6 zk_6 cc0_7
    have K0 := ext2 ed
    have haw := fun e : Ext V => awake11 e.world
    refine wp_region_ext mixed (by kernel_rfl) ?_
    repeat (go_big_quiet_step (((go_at_call 24; with_reducible exact ext_of (haw _)))))
    refine wpQuiet_nil ?_
    rintro _ ⟨⟨W9, hb9⟩, rfl⟩
    go_wp2_with fail
    go_ret
    exact ⟨rfl, bt hB hb9⟩

set_option maxRecDepth 100000 in
theorem walk_inside (D : Dk) (L : Pn) (p q p' q' : Pl) (t : Int) (k : Nat) (w : World) (h0 : IsDk0 w D p q) (hbl : D.bad.length ≤ 17592186044416) (hL : IsPn w L p' q') (hg : good D L = true) (U : List (Int × Int)) (he : Pn.tabAll D L t = (U, 0)) (hU : U.length = 64) (hk : k < U.length) (X Y : Int) (hc : Pn.tabFind D L t k = ((X, Y), 0)) (hx : U[k] = (X, Y)) :
    Calls Try.prog 7 #[dval D p q, pval L p' q', .int .i64 t, .int .i64 k] w fun e w' => e = .returned (.bool true) ∧ Below w.heap.size w w' := by
  obtain ⟨g1, g2, g3, g4⟩ := good_iff.1 hg
  have hD := h0.full (by omega) hbl (by omega)
  have hG := fun (W : World) (hb : Below w.heap.size w W) => good11 D L p q p' q' W (h0.below hb) (hL.below hb) hbl
  rw [hg] at hG
  have hdl := (Dk.fit_parts g3).2.2.1
  have h5 := fun (W : World) (hb : Below w.heap.size w W) => t_all D L p q p' q' W (hD.below hb) (hL.below hb) g3 g4 t
  have h4 := fun (W : World) (hb : Below w.heap.size w W) => t11_find D L p q p' q' W (hD.below hb) (hL.below hb) g3 g4 t k
  rw [he] at h5
  rw [hc] at h4
  simp only at h4
  have n1 : ((U.length : Int) != 64) = false := by simp [hU]
  have H3 := hid hU
  have Hx := hid hx
  clear h0 hL hg hD g1 g2 g3 g4 hdl he hU hc hx
  obtain ⟨A1, a1⟩ := p
  obtain ⟨A2, a2⟩ := q
  obtain ⟨B1, b1⟩ := p'
  obtain ⟨B2, b2⟩ := q'
  have hB := Below.refl w.heap.size w
  have x := Blk.new w 25 #[.string (bs D.data), .slice A1 D.cache.length a1, .int .i64 D.fuse, .bool D.off, .slice A2 D.bad.length a2]
  have xk := blk5 x
  have hB_1 := hB.alloc hB.size (.cells #[.string (bs D.data), .slice A1 D.cache.length a1, .int .i64 D.fuse, .bool D.off, .slice A2 D.bad.length a2] 25)
  have z := Blk.new (w.alloc (.cells #[.string (bs D.data), .slice A1 D.cache.length a1, .int .i64 D.fuse, .bool D.off, .slice A2 D.bad.length a2] 25)) 28 #[.slice B1 L.targets.length b1, .slice B2 L.data.length b2]
  simp only [World.size_alloc] at z
  have zk := blk2 z
  have hB_2 := hB_1.alloc hB_1.size (.cells #[.slice B1 L.targets.length b1, .slice B2 L.data.length b2] 28)
  have x_3 := x.alloc (.cells #[.slice B1 L.targets.length b1, .slice B2 L.data.length b2] 28)
  have xk_3 := blk5 x_3
  go_enter Try.func7, Try.ntmps7
  go_wp2_with fail
  go_at_call 23
  refine ((hG _ hB_2)).mono ?_
  rintro e w1 ⟨rfl, hb1⟩
  replace hB := bt hB_2 hb1
  replace x := x_3.below hb1 x_3.lt
  replace xk := blk5 x
  replace z := z.below hb1 z.lt
  replace zk := blk2 z
  clear hB_1 hB_2 xk_3 x_3
  go_wp2_with fail
  go_at_call 29
  refine ((h5 _ hB)).mono ?_
  rintro e w2 ⟨⟨v1, rfl, own1⟩, hb2⟩
  replace hB := bt hB hb2
  replace x := x.below hb2 x.lt
  replace xk := blk5 x
  replace z := z.below hb2 z.lt
  replace zk := blk2 z
  obtain ⟨C1, c1, rfl, _⟩ := own_slice own1
  have cc0 := Cells.of_own own1
  go_wp2_with fail
  go_at_call 28
  refine ((h4 _ hB)).mono ?_
  rintro e w3 ⟨rfl, hb3⟩
  replace hB := bt hB hb3
  replace x := x.below hb3 x.lt
  replace xk := blk5 x
  replace z := z.below hb3 z.lt
  replace zk := blk2 z
  replace cc0 := cc0.below hb3
  have ed := Blk.new w3 49 #[.int .i64 X, .int .i64 Y]
  have edk := blk2 ed
  have hB_4 := hB.alloc hB.size (.cells #[.int .i64 X, .int .i64 Y] 49)
  have x_5 := x.alloc (.cells #[.int .i64 X, .int .i64 Y] 49)
  have xk_5 := blk5 x_5
  have z_6 := z.alloc (.cells #[.int .i64 X, .int .i64 Y] 49)
  have zk_6 := blk2 z_6
  have cc0_7 := cc0.below ((Below.refl _ _).alloc (Nat.le_refl _) (.cells #[.int .i64 X, .int .i64 Y] 49))
  obtain ⟨bb, ob, rfl, hcell⟩ := (cc0_7).ent hk
  obtain ⟨cx, cy⟩ := hcell k hk
  rw [Hx.out] at cx cy
  simp only at cx cy
  clear hcell
  have hk3 : decide ((k : Int) < 0) = false := by simp
  have hk4 : decide ((U.length : Int) ≤ (k : Int)) = false := by simp; omega
  have hk5 : decide (U.length ≤ k) = false := by simp; omega
  have ccx := (⟨cx⟩ : CellIs _ _ _)
  have ccy := (⟨cy⟩ : CellIs _ _ _)
  go_wp2_with fail
  generalize (w3.alloc (.cells #[.int .i64 X, .int .i64 Y] 49)) = V at hB_4 x_5 xk_5 z_6 zk_6 ed edk ccx ccy ⊢
  clear cc0_7 hB x z xk zk
  have hB := hB_4
  have x := x_5
  have xk := xk_5
  have z := z_6
  have zk := zk_6
  clear hB_4 x_5 xk_5 z_6 zk_6
  have K0 := ext2 ed
  have haw := fun e : Ext V => awake11 e.world
  have K1 := fun e : Ext V => e.cell (ccx).out
  have K2 := fun e : Ext V => e.cell (ccy).out
  clear cx cy
  refine wp_region_ext mixed (by kernel_rfl) ?_
  repeat (go_big_quiet_step (((go_at_call 24; with_reducible exact ext_of (haw _)))))
  refine wpQuiet_nil ?_
  rintro _ ⟨⟨W9, hb9⟩, rfl⟩
  go_wp2_with fail
  go_ret
  exact ⟨rfl, bt hB hb9⟩
set_option maxRecDepth 100000 in
theorem walk (w : World) (D : Dk) (p q : Pl) (hD : IsDk0 w D p q ∧ D.cache.length * Try.prog.bytesOf 118 ≤ reachBytes ∧ D.bad.length * Try.prog.bytesOf 3 ≤ reachBytes) (L : Pn) (p' q' : Pl) (hL : IsPn w L p' q') (t : Int) (wt : (Lit.int .i64 t).wf = true) (k : Int) (wk : (Lit.int .i64 k).wf = true) :
    Calls Try.prog 7 #[dval D p q, pval L p' q', .int .i64 t, .int .i64 k] w fun e w' => e = .returned (.bool true) ∧ Below w.heap.size w w' := by
  obtain ⟨hD, c1, b1⟩ := hD
  rw [show Try.prog.bytesOf 3 = 8 by kernel_rfl] at b1
  unfold reachBytes at b1
  cases hg : good D L with
  | false => exact walk_no D L p q p' q' t k w hD (by omega) hL hg
  | true =>
    have hta : Pn.tabAll D L t = allN (fun n : Nat => Pn.tabFind D L t n) 64 := rfl
    by_cases he : (Pn.tabAll D L t).2 = 0
    · rw [hta] at he
      obtain ⟨a1, a2⟩ := allN_ok (f := fun n : Nat => Pn.tabFind D L t n) he
      by_cases hk : k < 0 ∨ 64 ≤ k
      · exact walk_out D L p q p' q' t k w hD (by omega) hL hg _ (hta.trans (Prod.ext rfl he)) a1 hk
      · obtain ⟨k, rfl⟩ := Int.eq_ofNat_of_zero_le (show 0 ≤ k by omega)
        have hlt : k < (allN (fun n : Nat => Pn.tabFind D L t n) 64).1.length := by rw [a1]; omega
        obtain ⟨d1, d2⟩ := a2 k (by omega)
        rw [List.getElem?_eq_getElem hlt] at d2
        injection d2 with d2
        exact walk_inside D L p q p' q' t k w hD (by omega) hL hg _ (hta.trans (Prod.ext rfl he)) a1 hlt _ _ (Prod.ext rfl d1) d2
    · exact walk_err D L p q p' q' t k w hD (by omega) hL hg (Pn.tabAll D L t).2 (Prod.ext (by rw [hta] at he ⊢; exact allN_err he) rfl) he
/-! ### The row -/
theorem own : ownKnob Try.prog.godebug = none := by kernel_rfl
set_option maxRecDepth 100000 in
theorem lifted (os : Os) (started : os.Started) (H : Type) (enc : TypeId × Value → H) :
    ReturnsInHanded {} Try.checked os 7 .any (Rows.tableAllSpec.pre6 enc Try.prog Try.f7 Rows.tableAllRow.domain false) (Rows.tableAllSpec.post enc Try.prog Try.f7 false true false false) := by
  refine returnsInHanded_of_change_sized (C := Try.checked) own started (by kernel_rfl) Try.func7
    (ChangeSpec.witness6 (enc := enc) (C := Try.checked) false ⟨#[], #[.agg #[.string ByteArray.empty, .slice none 0 0, .int .i64 0, .bool false, .slice none 0 0], .agg #[.slice none 0 0, .slice none 0 0], .int .i64 0, .int .i64 0], []⟩ 8 (by kernel_rfl) (by kernel_rfl) (by kernel_rfl) (by kernel_rfl)) ?_
  intro W base args ds gs before hval0 hW hcnd hsz0 _
  have hval : ∀ (j : Nat) t v, Try.f7.params[j]? = some t → args[j]? = some v → Value.okWide Try.prog W .any base t v := hval0
  have hW' := hW
  obtain ⟨p, q, hA0, hV, rfl, hfz, hnd⟩ := hW
  have hA : DataW.TrodAll enc Try.prog W 0 (fun _ => true) true Try.f7.params.toList args.toList ds p := hA0
  have hAk := hA
  have hsz : (DataW.weightsEach Try.prog (Try.f7.params.toList ++ Rows.tableAllSpec.plain.varTypes Try.prog) (ds ++ gs)).all (· ≤ reachBytes) = true := hsz0
  rw [Try.params7] at hA hval hsz
  obtain ⟨v0, vs0, d0, ds0, p0, q0, hargs, rfl, rfl, h0, r0⟩ := trodAll_cons hA
  obtain ⟨v1, vs1, d1, ds1, p1, q1, rfl, rfl, rfl, h1, r1⟩ := trodAll_cons r0
  obtain ⟨v2, vs2, d2, ds2, p2, q2, rfl, rfl, rfl, h2, r2⟩ := trodAll_cons r1
  obtain ⟨v3, vs3, d3, ds3, p3, q3, rfl, rfl, rfl, h3, r3⟩ := trodAll_cons r2
  obtain ⟨rfl, rfl, rfl⟩ := trodAll_nil r3
  obtain rfl : args = #[v0, v1, v2, v3] := by cases args; simp_all
  obtain ⟨rfl, rfl⟩ := trodVars_none hV
  obtain ⟨D0, P0, Q0, rfl, w0⟩ := open_dk_sized Try.underlying25 (by kernel_rfl) (by kernel_rfl) Try.underlying9 Try.underlying22 Try.underlying3 Try.underlying4 Try.underlying23 Try.underlying118 (by kernel_rfl) (by kernel_rfl) Try.underlying3 Try.underlying9 Try.underlying3 (by kernel_rfl) (hval 0 25 v0 rfl rfl) h0 (weights_each hsz (j := 0) rfl rfl)
  obtain ⟨D1, P1, Q1, rfl, w1⟩ := open_plan Try.underlying28 (by kernel_rfl) (by kernel_rfl) Try.underlying23 Try.underlying26 Try.underlying3 (by kernel_rfl) Try.underlying9 (by kernel_rfl) (hval 1 28 v1 rfl rfl) h1
  obtain ⟨a2, rfl, rfl, rfl, w2⟩ := open_int Try.underlying3 (hval 2 3 v2 rfl rfl) h2
  obtain ⟨a3, rfl, rfl, rfl, w3⟩ := open_int Try.underlying3 (hval 3 3 v3 rfl rfl) h3
  clear hA0 hval0
  simp only [List.append_nil] at hW'
  refine (walk W D0 P0 Q0 w0 D1 P1 Q1 w1 a2 w2 a3 w3).mono fun e W' ⟨he, hb⟩ => ?_
  subst he
  exact ⟨_, rfl, post_of_below (pa := _) (pv := []) hW' (fun _ _ _ => (trodAll_cons_mk (shut_bool Try.underlying4 _) trodAll_mk0)) (fun sp hsp => trodAll_stays (by kernel_rfl) hb (by kernel_rfl) hAk (fun x hx => hW'.lt x (by simpa using hx)) (fun x hx => hsp x (by simpa using hx))) (fun _ _ => rfl) (by simp) hb (ok_one (by kernel_rfl) rfl (okWide_bool_mk Try.underlying4 _))⟩
theorem over_ : Rows.tableAllRow.holds Try.pinned (OpenSpec.ofChange Rows.tableAllSpec) :=
  OpenClaim.holds_of_wide 7 Try.f7 rfl rfl rfl rfl rfl rfl rfl ⟨rfl, rfl, rfl, rfl, rfl⟩ rfl rfl rfl rfl rfl (by kernel_rfl) Try.func7 (by kernel_rfl)
    (of_decide_eq_true (by kernel_rfl)) (by unfold Func.isWrapper; first | (rw [if_pos (by decide +kernel)]; kernel_rfl) | (rw [if_neg (by decide +kernel)]; exact ⟨rfl, rfl⟩))
    (fun os started H enc _ => lifted os started H enc)
/-- The statement. -/
theorem proved : Rows.TableAllSaid := over_
#print axioms proved
end Go.Proofs.Ytlajbmmhgflabaa.tableAll
