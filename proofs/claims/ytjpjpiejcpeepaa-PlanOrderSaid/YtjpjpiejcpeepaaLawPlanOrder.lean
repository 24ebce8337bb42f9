/- PlanOrder: two sectors that are set in either order make plans by which each sector will be the same: any device, any plan, any places, any texts. No condition. -/
import Derived.Test.YtjpjpiejcpeepaaLaw05a
import Derived.Test.YtjpjpiejcpeepaaPlan6
import Derived.Test.YtjpjpiejcpeepaaPlanLaw3
import Derived.Test.YtjpjpiejcpeepaaOpen2
import Derived.Test.YtjpjpiejcpeepaaShut
set_option linter.unusedVariables false
namespace Go.Proofs.Ytjpjpiejcpeepaa.planOrder
open Go.RowKit Go.Shelf Go.WideShapes Go.ChangeShapes Go.ChangeAt
open Go.ChangeMaps (open_string shut_string)
attribute [local go_sem] bs_mk bs_append bs_extract bs_size bs_toList bs_get

set_option maxRecDepth 100000 in
theorem walk_no (D : Dk) (L : Pn) (p q p' q' : Pl) (k : Int) (s : List UInt8) (l : Int) (t : List UInt8) (o : Int) (w : World) (h0 : IsDk0 w D p q) (hbl : D.bad.length ≤ 17592186044416) (hL : IsPn w L p' q') (hg : good D L = false) :
    Calls Try.prog 4 #[dval D p q, pval L p' q', .int .i64 k, .string (bs s), .int .i64 l, .string (bs t), .int .i64 o] w fun e w' => e = .returned (.bool true) ∧ Below w.heap.size w w' := by
  have hG := fun (W : World) (hb : Below w.heap.size w W) => good05 D L p q p' q' W (h0.below hb) (hL.below hb) hbl
  rw [hg] at hG
  clear h0 hL hg
  obtain ⟨A1, a1⟩ := p
  obtain ⟨A2, a2⟩ := q
  obtain ⟨B1, b1⟩ := p'
  obtain ⟨B2, b2⟩ := q'
  have hB := Below.refl w.heap.size w
  have x := Blk.new w 25 #[.string (bs D.data), .slice A1 D.cache.length a1, .int .i64 D.fuse, .bool D.off, .slice A2 D.bad.length a2]
  have xk := blk5 x
  have hB_1 := hB.alloc hB.size (.cells #[.string (bs D.data), .slice A1 D.cache.length a1, .int .i64 D.fuse, .bool D.off, .slice A2 D.bad.length a2] 25)
  have z := Blk.new (w.alloc (.cells #[.string (bs D.data), .slice A1 D.cache.length a1, .int .i64 D.fuse, .bool D.off, .slice A2 D.bad.length a2] 25)) 28 #[.slice B1 L.targets.length b1, .slice B2 L.data.length b2]
  simp only [World.size_alloc] at z
  have zk := blk2 z
  have hB_2 := hB_1.alloc hB_1.size (.cells #[.slice B1 L.targets.length b1, .slice B2 L.data.length b2] 28)
  have x_3 := x.alloc (.cells #[.slice B1 L.targets.length b1, .slice B2 L.data.length b2] 28)
  have xk_3 := blk5 x_3
  go_enter Try.func4, Try.ntmps4
  go_wp2_with fail
  go_at_call 13
  refine ((hG _ hB_2)).mono ?_
  rintro e w1 ⟨rfl, hb1⟩
  replace hB := bt hB_2 hb1
  replace x := x_3.below hb1 x_3.lt
  replace xk := blk5 x
  replace z := z.below hb1 z.lt
  replace zk := blk2 z
  clear hB_1 hB_2 xk_3 x_3
  go_wp2_with fail
  go_at_call 14
  refine ((awake05 _)).mono ?_
  rintro e w2 ⟨rfl, hb2⟩
  replace hB := bt hB hb2
  replace x := x.below hb2 x.lt
  replace xk := blk5 x
  replace z := z.below hb2 z.lt
  replace zk := blk2 z
  go_wp2_with fail
  go_ret
  exact ⟨rfl, hB⟩

set_option maxRecDepth 100000 in
theorem walk_same (D : Dk) (L : Pn) (p q p' q' : Pl) (k : Int) (s : List UInt8) (l : Int) (t : List UInt8) (o : Int) (w : World) (h0 : IsDk0 w D p q) (hbl : D.bad.length ≤ 17592186044416) (hL : IsPn w L p' q') (hg : good D L = true) (he : k = l) :
    Calls Try.prog 4 #[dval D p q, pval L p' q', .int .i64 k, .string (bs s), .int .i64 l, .string (bs t), .int .i64 o] w fun e w' => e = .returned (.bool true) ∧ Below w.heap.size w w' := by
  have hG := fun (W : World) (hb : Below w.heap.size w W) => good05 D L p q p' q' W (h0.below hb) (hL.below hb) hbl
  rw [hg] at hG
  subst he
  clear h0 hL hg
  obtain ⟨A1, a1⟩ := p
  obtain ⟨A2, a2⟩ := q
  obtain ⟨B1, b1⟩ := p'
  obtain ⟨B2, b2⟩ := q'
  have hB := Below.refl w.heap.size w
  have x := Blk.new w 25 #[.string (bs D.data), .slice A1 D.cache.length a1, .int .i64 D.fuse, .bool D.off, .slice A2 D.bad.length a2]
  have xk := blk5 x
  have hB_1 := hB.alloc hB.size (.cells #[.string (bs D.data), .slice A1 D.cache.length a1, .int .i64 D.fuse, .bool D.off, .slice A2 D.bad.length a2] 25)
  have z := Blk.new (w.alloc (.cells #[.string (bs D.data), .slice A1 D.cache.length a1, .int .i64 D.fuse, .bool D.off, .slice A2 D.bad.length a2] 25)) 28 #[.slice B1 L.targets.length b1, .slice B2 L.data.length b2]
  simp only [World.size_alloc] at z
  have zk := blk2 z
  have hB_2 := hB_1.alloc hB_1.size (.cells #[.slice B1 L.targets.length b1, .slice B2 L.data.length b2] 28)
  have x_3 := x.alloc (.cells #[.slice B1 L.targets.length b1, .slice B2 L.data.length b2] 28)
  have xk_3 := blk5 x_3
  go_enter Try.func4, Try.ntmps4
  go_wp2_with fail
  go_at_call 13
  refine ((hG _ hB_2)).mono ?_
  rintro e w1 ⟨rfl, hb1⟩
  replace hB := bt hB_2 hb1
  replace x := x_3.below hb1 x_3.lt
  replace xk := blk5 x
  replace z := z.below hb1 z.lt
  replace zk := blk2 z
  clear hB_1 hB_2 xk_3 x_3
  go_wp2_with fail
  go_at_call 14
  refine ((awake05 _)).mono ?_
  rintro e w2 ⟨rfl, hb2⟩
  replace hB := bt hB hb2
  replace x := x.below hb2 x.lt
  replace xk := blk5 x
  replace z := z.below hb2 z.lt
  replace zk := blk2 z
  go_wp2_with fail
  go_ret
  exact ⟨rfl, hB⟩

set_option maxRecDepth 100000 in
theorem walk_not (D : Dk) (L : Pn) (p q p' q' : Pl) (k : Int) (s : List UInt8) (l : Int) (t : List UInt8) (o : Int) (w : World) (h0 : IsDk0 w D p q) (hbl : D.bad.length ≤ 17592186044416) (hL : IsPn w L p' q') (hg : good D L = true) (hk : okInt k) (hs : s.length ≤ 9223372036854775807) (hl : okInt l) (ht : t.length ≤ 9223372036854775807) (hne : k ≠ l) (X Y : Pn) (e f : Int) (hX : L.set k s = (X, e)) (hY : L.set l t = (Y, f)) (hef : e ≠ 0 ∨ f ≠ 0) :
    Calls Try.prog 4 #[dval D p q, pval L p' q', .int .i64 k, .string (bs s), .int .i64 l, .string (bs t), .int .i64 o] w fun e w' => e = .returned (.bool true) ∧ Below w.heap.size w w' := by
  obtain ⟨g1, g2, g3, g4⟩ := good_iff.1 hg
  have hD := h0.full (by omega) hbl (by omega)
  have hG := fun (W : World) (hb : Below w.heap.size w W) => good05 D L p q p' q' W (h0.below hb) (hL.below hb) hbl
  rw [hg] at hG
  have hdl := (Dk.fit_parts g3).2.2.1
  have hs1 := fun (W : World) (hb : Below w.heap.size w W) => pl_set L p' q' W (hL.below hb) k hk s hs (by have := g4.2.1; omega) g4.1
  have hs2 := fun (W : World) (hb : Below w.heap.size w W) => pl_set L p' q' W (hL.below hb) l hl t ht (by have := g4.2.1; omega) g4.1
  rw [hX] at hs1
  rw [hY] at hs2
  have Hap := hid (fun g (hg : w.heap.size ≤ g) => hL.apart hg)
  have n1 : (k == l) = false := by simpa using hne
  clear h0 hL hg hX hY hD g1 g2 g3 g4 hdl hne
  obtain ⟨A1, a1⟩ := p
  obtain ⟨A2, a2⟩ := q
  obtain ⟨B1, b1⟩ := p'
  obtain ⟨B2, b2⟩ := q'
  have hB := Below.refl w.heap.size w
  have x := Blk.new w 25 #[.string (bs D.data), .slice A1 D.cache.length a1, .int .i64 D.fuse, .bool D.off, .slice A2 D.bad.length a2]
  have xk := blk5 x
  have hB_1 := hB.alloc hB.size (.cells #[.string (bs D.data), .slice A1 D.cache.length a1, .int .i64 D.fuse, .bool D.off, .slice A2 D.bad.length a2] 25)
  have z := Blk.new (w.alloc (.cells #[.string (bs D.data), .slice A1 D.cache.length a1, .int .i64 D.fuse, .bool D.off, .slice A2 D.bad.length a2] 25)) 28 #[.slice B1 L.targets.length b1, .slice B2 L.data.length b2]
  simp only [World.size_alloc] at z
  have zk := blk2 z
  have hB_2 := hB_1.alloc hB_1.size (.cells #[.slice B1 L.targets.length b1, .slice B2 L.data.length b2] 28)
  have x_3 := x.alloc (.cells #[.slice B1 L.targets.length b1, .slice B2 L.data.length b2] 28)
  have xk_3 := blk5 x_3
  go_enter Try.func4, Try.ntmps4
  go_wp2_with fail
  go_at_call 13
  refine ((hG _ hB_2)).mono ?_
  rintro e w1 ⟨rfl, hb1⟩
  replace hB := bt hB_2 hb1
  replace x := x_3.below hb1 x_3.lt
  replace xk := blk5 x
  replace z := z.below hb1 z.lt
  replace zk := blk2 z
  clear hB_1 hB_2 xk_3 x_3
  go_wp2_with fail
  go_at_call 15
  refine ((hs1 _ hB)).mono ?_
  rintro e w2 ⟨⟨p1, q1, rfl, i1, o1⟩, hb2⟩
  replace hB := bt hB hb2
  replace x := x.below hb2 x.lt
  replace xk := blk5 x
  replace z := z.below hb2 z.lt
  replace zk := blk2 z
  have a1 := i1.apart (Nat.le_refl _)
  have y := Blk.new w2 28 #[.slice p1.a X.targets.length p1.c, .slice q1.a X.data.length q1.c]
  have yk := blk2 y
  have ykf := y.frozen
  have hB_4 := hB.alloc hB.size (.cells #[.slice p1.a X.targets.length p1.c, .slice q1.a X.data.length q1.c] 28)
  have x_5 := x.alloc (.cells #[.slice p1.a X.targets.length p1.c, .slice q1.a X.data.length q1.c] 28)
  have xk_5 := blk5 x_5
  have z_6 := z.alloc (.cells #[.slice p1.a X.targets.length p1.c, .slice q1.a X.data.length q1.c] 28)
  have zk_6 := blk2 z_6
  have i1_7 := i1.below ((Below.refl _ _).alloc (Nat.le_refl _) (.cells #[.slice p1.a X.targets.length p1.c, .slice q1.a X.data.length q1.c] 28))
  have y2 := y
  go_wp2_with fail
  go_at_call 15
  refine ((hs2 _ hB_4)).mono ?_
  rintro e w3 ⟨⟨p2, q2, rfl, i2, o2⟩, hb3⟩
  replace hB := bt hB_4 hb3
  replace x := x_5.below hb3 x_5.lt
  replace xk := blk5 x
  replace z := z_6.below hb3 z_6.lt
  replace zk := blk2 z
  replace i1 := i1_7.below hb3
  replace y := y.below hb3 y.lt
  replace yk := blk2 y
  replace ykf := y.frozen
  clear hB_4 xk_5 x_5 zk_6 z_6 i1_7
  have lt3 := y.lt
  have i1z := i1
  have a2 := i2.apart (Nat.le_refl _)
  have a3 := o2 w2.heap.size (by simp) (Hap.out _ (by have := hb2.size; have := hb1.size; simp at *; omega))
  have v := Blk.new w3 28 #[.slice p2.a Y.targets.length p2.c, .slice q2.a Y.data.length q2.c]
  have vk := blk2 v
  have vkf := v.frozen
  have hB_8 := hB.alloc hB.size (.cells #[.slice p2.a Y.targets.length p2.c, .slice q2.a Y.data.length q2.c] 28)
  have x_9 := x.alloc (.cells #[.slice p2.a Y.targets.length p2.c, .slice q2.a Y.data.length q2.c] 28)
  have xk_9 := blk5 x_9
  have z_10 := z.alloc (.cells #[.slice p2.a Y.targets.length p2.c, .slice q2.a Y.data.length q2.c] 28)
  have zk_10 := blk2 z_10
  have i1_11 := i1.below ((Below.refl _ _).alloc (Nat.le_refl _) (.cells #[.slice p2.a Y.targets.length p2.c, .slice q2.a Y.data.length q2.c] 28))
  have y_12 := y.alloc (.cells #[.slice p2.a Y.targets.length p2.c, .slice q2.a Y.data.length q2.c] 28)
  have yk_12 := blk2 y_12
  have ykf_12 := y_12.frozen
  have i2_13 := i2.below ((Below.refl _ _).alloc (Nat.le_refl _) (.cells #[.slice p2.a Y.targets.length p2.c, .slice q2.a Y.data.length q2.c] 28))
  by_cases he : e = 0
  · have n3 : (f != 0) = true := by rcases hef with h | h; (exact absurd he h); simpa using h
    subst he
    clear hef
    go_wp2_with fail
    go_at_call 14
    refine ((awake05 _)).mono ?_
    rintro e w4 ⟨rfl, hb4⟩
    replace hB := bt hB_8 hb4
    replace x := x_9.below hb4 x_9.lt
    replace xk := blk5 x
    replace z := z_10.below hb4 z_10.lt
    replace zk := blk2 z
    replace i1 := i1_11.below hb4
    replace y := y_12.below hb4 y_12.lt
    replace yk := blk2 y
    replace ykf := y.frozen
    replace i2 := i2_13.below hb4
    replace v := v.below hb4 v.lt
    replace vk := blk2 v
    replace vkf := v.frozen
    clear hB_8 xk_9 x_9 zk_10 z_10 i1_11 yk_12 ykf_12 y_12 i2_13
    go_wp2_with fail
    go_ret
    exact ⟨rfl, hB⟩
  · have n3 : (e != 0) = true := by simpa using he
    clear hef he
    go_wp2_with fail
    go_at_call 14
    refine ((awake05 _)).mono ?_
    rintro e w4 ⟨rfl, hb4⟩
    replace hB := bt hB_8 hb4
    replace x := x_9.below hb4 x_9.lt
    replace xk := blk5 x
    replace z := z_10.below hb4 z_10.lt
    replace zk := blk2 z
    replace i1 := i1_11.below hb4
    replace y := y_12.below hb4 y_12.lt
    replace yk := blk2 y
    replace ykf := y.frozen
    replace i2 := i2_13.below hb4
    replace v := v.below hb4 v.lt
    replace vk := blk2 v
    replace vkf := v.frozen
    clear hB_8 xk_9 x_9 zk_10 z_10 i1_11 yk_12 ykf_12 y_12 i2_13
    go_wp2_with fail
    go_ret
    exact ⟨rfl, hB⟩

set_option maxRecDepth 100000 in
set_option maxHeartbeats 1000000 in
theorem walk_ok (D : Dk) (L : Pn) (p q p' q' : Pl) (k : Int) (s : List UInt8) (l : Int) (t : List UInt8) (o : Int) (w : World) (h0 : IsDk0 w D p q) (hbl : D.bad.length ≤ 17592186044416) (hL : IsPn w L p' q') (hg : good D L = true) (hk : okInt k) (hs : s.length ≤ 9223372036854775807) (hl : okInt l) (ht : t.length ≤ 9223372036854775807) (hne : k ≠ l) (X Y U Z : Pn) (e : Int) (hX : L.set k s = (X, 0)) (hY : L.set l t = (Y, 0)) (hU : X.set l t = (U, e)) (hZ : Y.set k s = (Z, e)) (hXf : X.Fit) (hYf : Y.Fit) (hUf : U.Fit) (hZf : Z.Fit)
    (b c : List UInt8) (f g : Int) (lu : Pn.look D U o = (b, f)) (lz : Pn.look D Z o = (c, g)) (hcase : e ≠ 0 ∨ (e = 0 ∧ b = c ∧ f = g)) :
    Calls Try.prog 4 #[dval D p q, pval L p' q', .int .i64 k, .string (bs s), .int .i64 l, .string (bs t), .int .i64 o] w fun e w' => e = .returned (.bool true) ∧ Below w.heap.size w w' := by
  obtain ⟨g1, g2, g3, g4⟩ := good_iff.1 hg
  have hD := h0.full (by omega) hbl (by omega)
  have hG := fun (W : World) (hb : Below w.heap.size w W) => good05 D L p q p' q' W (h0.below hb) (hL.below hb) hbl
  rw [hg] at hG
  have hdl := (Dk.fit_parts g3).2.2.1
  have hs1 := fun (W : World) (hb : Below w.heap.size w W) => pl_set L p' q' W (hL.below hb) k hk s hs (by have := g4.2.1; omega) g4.1
  have hs2 := fun (W : World) (hb : Below w.heap.size w W) => pl_set L p' q' W (hL.below hb) l hl t ht (by have := g4.2.1; omega) g4.1
  rw [hX] at hs1
  rw [hY] at hs2
  have Hap := hid (fun g (hg : w.heap.size ≤ g) => hL.apart hg)
  have n1 : (k == l) = false := by simpa using hne
  have hs3 := fun (W : World) (p1 q1 : Pl) (h : IsPn W X p1 q1) => pl_set X p1 q1 W h l hl t ht (by have := hXf.2.1; omega) hXf.1
  have hs4 := fun (W : World) (p1 q1 : Pl) (h : IsPn W Y p1 q1) => pl_set Y p1 q1 W h k hk s hs (by have := hYf.2.1; omega) hYf.1
  have h1 := fun (W : World) (hb : Below w.heap.size w W) (p1 q1 : Pl) (h : IsPn W U p1 q1) => pl_look D U p q p1 q1 W (hD.below hb) h o hdl (by have := hUf.2.1; omega) hUf.1
  have h2 := fun (W : World) (hb : Below w.heap.size w W) (p1 q1 : Pl) (h : IsPn W Z p1 q1) => pl_look D Z p q p1 q1 W (hD.below hb) h o hdl (by have := hZf.2.1; omega) hZf.1
  have h3 := fun (W : World) (p1 q1 : Pl) (h : IsPn W U p1 q1) => r5_fit U p1 q1 W h
  rw [hU] at hs3
  rw [hZ] at hs4
  rw [lu] at h1
  rw [lz] at h2
  rw [Pn.fit_iff.2 hUf] at h3
  clear h0 hL hg hX hY hD g1 g2 g3 g4 hdl hne hU hZ lu lz hXf hYf hUf hZf
  obtain ⟨A1, a1⟩ := p
  obtain ⟨A2, a2⟩ := q
  obtain ⟨B1, b1⟩ := p'
  obtain ⟨B2, b2⟩ := q'
  have hB := Below.refl w.heap.size w
  have x := Blk.new w 25 #[.string (bs D.data), .slice A1 D.cache.length a1, .int .i64 D.fuse, .bool D.off, .slice A2 D.bad.length a2]
  have xk := blk5 x
  have hB_1 := hB.alloc hB.size (.cells #[.string (bs D.data), .slice A1 D.cache.length a1, .int .i64 D.fuse, .bool D.off, .slice A2 D.bad.length a2] 25)
  have z := Blk.new (w.alloc (.cells #[.string (bs D.data), .slice A1 D.cache.length a1, .int .i64 D.fuse, .bool D.off, .slice A2 D.bad.length a2] 25)) 28 #[.slice B1 L.targets.length b1, .slice B2 L.data.length b2]
  simp only [World.size_alloc] at z
  have zk := blk2 z
  have hB_2 := hB_1.alloc hB_1.size (.cells #[.slice B1 L.targets.length b1, .slice B2 L.data.length b2] 28)
  have x_3 := x.alloc (.cells #[.slice B1 L.targets.length b1, .slice B2 L.data.length b2] 28)
  have xk_3 := blk5 x_3
  go_enter Try.func4, Try.ntmps4
  go_wp2_with fail
  go_at_call 13
  refine ((hG _ hB_2)).mono ?_
  rintro e w1 ⟨rfl, hb1⟩
  replace hB := bt hB_2 hb1
  replace x := x_3.below hb1 x_3.lt
  replace xk := blk5 x
  replace z := z.below hb1 z.lt
  replace zk := blk2 z
  clear hB_1 hB_2 xk_3 x_3
  go_wp2_with fail
  go_at_call 15
  refine ((hs1 _ hB)).mono ?_
  rintro e w2 ⟨⟨p1, q1, rfl, i1, o1⟩, hb2⟩
  replace hB := bt hB hb2
  replace x := x.below hb2 x.lt
  replace xk := blk5 x
  replace z := z.below hb2 z.lt
  replace zk := blk2 z
  have a1 := i1.apart (Nat.le_refl _)
  have y := Blk.new w2 28 #[.slice p1.a X.targets.length p1.c, .slice q1.a X.data.length q1.c]
  have yk := blk2 y
  have ykf := y.frozen
  have hB_4 := hB.alloc hB.size (.cells #[.slice p1.a X.targets.length p1.c, .slice q1.a X.data.length q1.c] 28)
  have x_5 := x.alloc (.cells #[.slice p1.a X.targets.length p1.c, .slice q1.a X.data.length q1.c] 28)
  have xk_5 := blk5 x_5
  have z_6 := z.alloc (.cells #[.slice p1.a X.targets.length p1.c, .slice q1.a X.data.length q1.c] 28)
  have zk_6 := blk2 z_6
  have i1_7 := i1.below ((Below.refl _ _).alloc (Nat.le_refl _) (.cells #[.slice p1.a X.targets.length p1.c, .slice q1.a X.data.length q1.c] 28))
  have y2 := y
  go_wp2_with fail
  go_at_call 15
  refine ((hs2 _ hB_4)).mono ?_
  rintro e w3 ⟨⟨p2, q2, rfl, i2, o2⟩, hb3⟩
  replace hB := bt hB_4 hb3
  replace x := x_5.below hb3 x_5.lt
  replace xk := blk5 x
  replace z := z_6.below hb3 z_6.lt
  replace zk := blk2 z
  replace i1 := i1_7.below hb3
  replace y := y.below hb3 y.lt
  replace yk := blk2 y
  replace ykf := y.frozen
  clear hB_4 xk_5 x_5 zk_6 z_6 i1_7
  have lt3 := y.lt
  have i1z := i1
  have a2 := i2.apart (Nat.le_refl _)
  have a3 := o2 w2.heap.size (by simp) (Hap.out _ (by have := hb2.size; have := hb1.size; simp at *; omega))
  have v := Blk.new w3 28 #[.slice p2.a Y.targets.length p2.c, .slice q2.a Y.data.length q2.c]
  have vk := blk2 v
  have vkf := v.frozen
  have hB_8 := hB.alloc hB.size (.cells #[.slice p2.a Y.targets.length p2.c, .slice q2.a Y.data.length q2.c] 28)
  have x_9 := x.alloc (.cells #[.slice p2.a Y.targets.length p2.c, .slice q2.a Y.data.length q2.c] 28)
  have xk_9 := blk5 x_9
  have z_10 := z.alloc (.cells #[.slice p2.a Y.targets.length p2.c, .slice q2.a Y.data.length q2.c] 28)
  have zk_10 := blk2 z_10
  have i1_11 := i1.below ((Below.refl _ _).alloc (Nat.le_refl _) (.cells #[.slice p2.a Y.targets.length p2.c, .slice q2.a Y.data.length q2.c] 28))
  have y_12 := y.alloc (.cells #[.slice p2.a Y.targets.length p2.c, .slice q2.a Y.data.length q2.c] 28)
  have yk_12 := blk2 y_12
  have ykf_12 := y_12.frozen
  have i2_13 := i2.below ((Below.refl _ _).alloc (Nat.le_refl _) (.cells #[.slice p2.a Y.targets.length p2.c, .slice q2.a Y.data.length q2.c] 28))
  have w3l := hB_8.size
  have w2l := hb2.size
  have w1l := hb1.size
  simp only [World.size_alloc] at w1l
  have bl : w.heap.size ≤ w2.heap.size := by omega
  go_wp2_with fail
  go_at_call 15
  refine ((hs3 _ p1 q1 i1_11)).mono ?_
  rintro e w4 ⟨⟨p3, q3, rfl, i3, o3⟩, hb4⟩
  replace hB := bt hB_8 hb4
  replace x := x_9.below hb4 x_9.lt
  replace xk := blk5 x
  replace z := z_10.below hb4 z_10.lt
  replace zk := blk2 z
  replace i1 := i1_11.below hb4
  replace y := y_12.below hb4 y_12.lt
  replace yk := blk2 y
  replace ykf := y.frozen
  replace i2 := i2_13.below hb4
  replace v := v.below hb4 v.lt
  replace vk := blk2 v
  replace vkf := v.frozen
  clear hB_8 xk_9 x_9 zk_10 z_10 i1_11 yk_12 ykf_12 y_12 i2_13
  have a4 := o3 w2.heap.size (by simp; omega) a1
  have lt4 := y.lt
  have lt5 := v.lt
  have a6 := i3.apart (Nat.le_refl _)
  have a7 : PnOff w3.heap.size U p3 q3 := o3 w3.heap.size (by simp) (i1z.apart (Nat.le_refl _))
  have hB_14 := below_set2 hB (g := w2.heap.size) (by omega) (.slice p3.a U.targets.length p3.c) (.slice q3.a U.data.length q3.c)
  have x_15 := blk_off2 x (g := w2.heap.size) (by omega) (.slice p3.a U.targets.length p3.c) (.slice q3.a U.data.length q3.c)
  have xk_15 := blk5 x_15
  have z_16 := blk_off2 z (g := w2.heap.size) (by omega) (.slice p3.a U.targets.length p3.c) (.slice q3.a U.data.length q3.c)
  have zk_16 := blk2 z_16
  have y_17 := blk_set2 y (.slice p3.a U.targets.length p3.c) (.slice q3.a U.data.length q3.c)
  have yk_17 := blk2 y_17
  have ykf_17 := y_17.frozen
  have i2_18 := i2.off2 (g := w2.heap.size) (by first | assumption | omega) (.slice p3.a U.targets.length p3.c) (.slice q3.a U.data.length q3.c)
  have v_19 := blk_off2 v (g := w2.heap.size) (by omega) (.slice p3.a U.targets.length p3.c) (.slice q3.a U.data.length q3.c)
  have vk_19 := blk2 v_19
  have vkf_19 := v_19.frozen
  have i3_20 := i3.off2 (g := w2.heap.size) (by first | assumption | omega) (.slice p3.a U.targets.length p3.c) (.slice q3.a U.data.length q3.c)
  go_wp2_with fail
  go_at_call 15
  refine ((hs4 _ p2 q2 i2_18)).mono ?_
  rintro e w5 ⟨⟨p4, q4, rfl, i4, o4⟩, hb5⟩
  replace hB := bt hB_14 hb5
  replace x := x_15.below hb5 x_15.lt
  replace xk := blk5 x
  replace z := z_16.below hb5 z_16.lt
  replace zk := blk2 z
  replace y := y_17.below hb5 y_17.lt
  replace yk := blk2 y
  replace ykf := y.frozen
  replace i2 := i2_18.below hb5
  replace v := v_19.below hb5 v_19.lt
  replace vk := blk2 v
  replace vkf := v.frozen
  replace i3 := i3_20.below hb5
  clear hB_14 xk_15 x_15 zk_16 z_16 yk_17 ykf_17 y_17 i2_18 vk_19 vkf_19 v_19 i3_20
  have a5 := o4 w3.heap.size (by simp; omega) a2
  have hB_21 := below_set2 hB (g := w3.heap.size) (by omega) (.slice p4.a Z.targets.length p4.c) (.slice q4.a Z.data.length q4.c)
  have x_22 := blk_off2 x (g := w3.heap.size) (by omega) (.slice p4.a Z.targets.length p4.c) (.slice q4.a Z.data.length q4.c)
  have xk_22 := blk5 x_22
  have z_23 := blk_off2 z (g := w3.heap.size) (by omega) (.slice p4.a Z.targets.length p4.c) (.slice q4.a Z.data.length q4.c)
  have zk_23 := blk2 z_23
  have y_24 := blk_off2 y (g := w3.heap.size) (by omega) (.slice p4.a Z.targets.length p4.c) (.slice q4.a Z.data.length q4.c)
  have yk_24 := blk2 y_24
  have ykf_24 := y_24.frozen
  have v_25 := blk_set2 v (.slice p4.a Z.targets.length p4.c) (.slice q4.a Z.data.length q4.c)
  have vk_25 := blk2 v_25
  have vkf_25 := v_25.frozen
  have i3_26 := i3.off2 (g := w3.heap.size) (by first | assumption | omega) (.slice p4.a Z.targets.length p4.c) (.slice q4.a Z.data.length q4.c)
  have i4_27 := i4.off2 (g := w3.heap.size) (by first | assumption | omega) (.slice p4.a Z.targets.length p4.c) (.slice q4.a Z.data.length q4.c)
  go_wp2_with fail
  go_at_call 17
  refine ((h1 _ hB_21 p3 q3 i3_26)).mono ?_
  rintro e w6 ⟨rfl, hb6⟩
  replace hB := bt hB_21 hb6
  replace x := x_22.below hb6 x_22.lt
  replace xk := blk5 x
  replace z := z_23.below hb6 z_23.lt
  replace zk := blk2 z
  replace y := y_24.below hb6 y_24.lt
  replace yk := blk2 y
  replace ykf := y.frozen
  replace v := v_25.below hb6 v_25.lt
  replace vk := blk2 v
  replace vkf := v.frozen
  replace i3 := i3_26.below hb6
  replace i4 := i4_27.below hb6
  clear hB_21 xk_22 x_22 zk_23 z_23 yk_24 ykf_24 y_24 vk_25 vkf_25 v_25 i3_26 i4_27
  go_wp2_with fail
  go_at_call 17
  refine ((h2 _ hB p4 q4 i4)).mono ?_
  rintro e w7 ⟨rfl, hb7⟩
  replace hB := bt hB hb7
  replace x := x.below hb7 x.lt
  replace xk := blk5 x
  replace z := z.below hb7 z.lt
  replace zk := blk2 z
  replace y := y.below hb7 y.lt
  replace yk := blk2 y
  replace ykf := y.frozen
  replace v := v.below hb7 v.lt
  replace vk := blk2 v
  replace vkf := v.frozen
  replace i3 := i3.below hb7
  replace i4 := i4.below hb7
  rcases hcase with hc | ⟨rfl, rfl, rfl⟩
  · have n3 : (e != 0) = true := by simpa using hc
    clear hc
    go_wp2_with fail
    go_at_call 18
    refine ((h3 _ p3 q3 i3)).mono ?_
    rintro e w8 ⟨rfl, hb8⟩
    replace hB := bt hB hb8
    replace x := x.below hb8 x.lt
    replace xk := blk5 x
    replace z := z.below hb8 z.lt
    replace zk := blk2 z
    replace y := y.below hb8 y.lt
    replace yk := blk2 y
    replace ykf := y.frozen
    replace v := v.below hb8 v.lt
    replace vk := blk2 v
    replace vkf := v.frozen
    replace i3 := i3.below hb8
    replace i4 := i4.below hb8
    go_wp2_with fail
    go_at_call 14
    refine ((awake05 _)).mono ?_
    rintro e w9 ⟨rfl, hb9⟩
    replace hB := bt hB hb9
    replace x := x.below hb9 x.lt
    replace xk := blk5 x
    replace z := z.below hb9 z.lt
    replace zk := blk2 z
    replace y := y.below hb9 y.lt
    replace yk := blk2 y
    replace ykf := y.frozen
    replace v := v.below hb9 v.lt
    replace vk := blk2 v
    replace vkf := v.frozen
    replace i3 := i3.below hb9
    replace i4 := i4.below hb9
    go_wp2_with fail
    go_ret
    exact ⟨rfl, hB⟩
  · go_wp2_with fail
    go_at_call 18
    refine ((h3 _ p3 q3 i3)).mono ?_
    rintro e w8 ⟨rfl, hb8⟩
    replace hB := bt hB hb8
    replace x := x.below hb8 x.lt
    replace xk := blk5 x
    replace z := z.below hb8 z.lt
    replace zk := blk2 z
    replace y := y.below hb8 y.lt
    replace yk := blk2 y
    replace ykf := y.frozen
    replace v := v.below hb8 v.lt
    replace vk := blk2 v
    replace vkf := v.frozen
    replace i3 := i3.below hb8
    replace i4 := i4.below hb8
    go_wp2_with fail
    go_at_call 14
    refine ((awake05 _)).mono ?_
    rintro e w9 ⟨rfl, hb9⟩
    replace hB := bt hB hb9
    replace x := x.below hb9 x.lt
    replace xk := blk5 x
    replace z := z.below hb9 z.lt
    replace zk := blk2 z
    replace y := y.below hb9 y.lt
    replace yk := blk2 y
    replace ykf := y.frozen
    replace v := v.below hb9 v.lt
    replace vk := blk2 v
    replace vkf := v.frozen
    replace i3 := i3.below hb9
    replace i4 := i4.below hb9
    go_wp2_with fail
    go_ret
    exact ⟨rfl, hB⟩

theorem walk (w : World) (D : Dk) (p q : Pl) (hD : IsDk0 w D p q ∧ D.cache.length * Try.prog.bytesOf 45 ≤ reachBytes ∧ D.bad.length * Try.prog.bytesOf 3 ≤ reachBytes) (L : Pn) (p' q' : Pl) (hL : IsPn w L p' q') (k : Int) (wk : (Lit.int .i64 k).wf = true) (S : ByteArray) (hS : S.size ≤ maxLen) (l : Int) (wl : (Lit.int .i64 l).wf = true) (T : ByteArray) (hT : T.size ≤ maxLen) (o : Int) (wo : (Lit.int .i64 o).wf = true) :
    Calls Try.prog 4 #[dval D p q, pval L p' q', .int .i64 k, .string S, .int .i64 l, .string T, .int .i64 o] w fun e w' => e = .returned (.bool true) ∧ Below w.heap.size w w' := by
  obtain ⟨hD, c1, b1⟩ := hD
  rw [show Try.prog.bytesOf 3 = 8 by kernel_rfl] at b1
  unfold reachBytes at b1
  obtain ⟨s, rfl⟩ := bs_of S
  rw [bs_size] at hS
  obtain ⟨t, rfl⟩ := bs_of T
  rw [bs_size] at hT
  cases hg : good D L with
  | false => exact walk_no D L p q p' q' k s l t o w hD (by omega) hL hg
  | true =>
    have hf := (good_iff.1 hg).2.2.2
    by_cases hkl : k = l
    · exact walk_same D L p q p' q' k s l t o w hD (by omega) hL hg hkl
    · obtain ⟨X, e, hX⟩ : ∃ X e, L.set k s = (X, e) := ⟨_, _, rfl⟩
      obtain ⟨Y, f, hY⟩ : ∃ Y f, L.set l t = (Y, f) := ⟨_, _, rfl⟩
      by_cases h0 : e ≠ 0 ∨ f ≠ 0
      · exact walk_not D L p q p' q' k s l t o w hD (by omega) hL hg (okInt_of wk) hS (okInt_of wl) hT hkl X Y e f hX hY h0
      · obtain rfl : e = 0 := by omega
        obtain rfl : f = 0 := by omega
        obtain ⟨U, i, hU⟩ : ∃ U i, X.set l t = (U, i) := ⟨_, _, rfl⟩
        have hXf := Pn.set_fit hf k s
        rw [hX] at hXf
        have hYf := Pn.set_fit hf l t
        rw [hY] at hYf
        have hUf := Pn.set_fit hXf l t
        rw [hU] at hUf
        have hZf := Pn.set_fit hYf k s
        obtain ⟨Z, hZ⟩ : ∃ Z, Y.set k s = (Z, i) := ⟨(Y.set k s).1, by rw [← Pn.set_swap hf hkl hX hY, hU]⟩
        rw [hZ] at hZf
        refine walk_ok D L p q p' q' k s l t o w hD (by omega) hL hg (okInt_of wk) hS (okInt_of wl) hT hkl X Y U Z i hX hY hU hZ hXf hYf hUf hZf (Pn.look D U o).1 (Pn.look D Z o).1 (Pn.look D U o).2 (Pn.look D Z o).2 rfl rfl ?_
        by_cases hi : i = 0
        · subst hi
          have := Pn.look_swap hf hkl hX hY hU hZ D o
          exact .inr ⟨rfl, by rw [this], by rw [this]⟩
        · exact .inl hi
/-! ### The row -/
theorem own : ownKnob Try.prog.godebug = none := by kernel_rfl
set_option maxRecDepth 100000 in
theorem lifted (os : Os) (started : os.Started) (H : Type) (enc : TypeId × Value → H) :
    ReturnsInHanded {} Try.checked os 4 .any (Rows.planOrderSpec.pre6 enc Try.prog Try.f4 Rows.planOrderRow.domain false) (Rows.planOrderSpec.post enc Try.prog Try.f4 false true false false) := by
  refine returnsInHanded_of_change_sized (C := Try.checked) own started (by kernel_rfl) Try.func4
    (ChangeSpec.witness6 (enc := enc) (C := Try.checked) false ⟨#[], #[.agg #[.string ByteArray.empty, .slice none 0 0, .int .i64 0, .bool false, .slice none 0 0], .agg #[.slice none 0 0, .slice none 0 0], .int .i64 0, .string ByteArray.empty, .int .i64 0, .string ByteArray.empty, .int .i64 0], []⟩ 8 (by kernel_rfl) (by kernel_rfl) (by kernel_rfl) (by kernel_rfl)) ?_
  intro W base args ds gs before hval0 hW hcnd hsz0 _
  have hval : ∀ (j : Nat) t v, Try.f4.params[j]? = some t → args[j]? = some v → Value.okWide Try.prog W .any base t v := hval0
  have hW' := hW
  obtain ⟨p, q, hA0, hV, rfl, hfz, hnd⟩ := hW
  have hA : DataW.TrodAll enc Try.prog W 0 (fun _ => true) true Try.f4.params.toList args.toList ds p := hA0
  have hAk := hA
  have hsz : (DataW.weightsEach Try.prog (Try.f4.params.toList ++ Rows.planOrderSpec.plain.varTypes Try.prog) (ds ++ gs)).all (· ≤ reachBytes) = true := hsz0
  rw [Try.params4] at hA hval hsz
  obtain ⟨v0, vs0, d0, ds0, p0, q0, hargs, rfl, rfl, h0, r0⟩ := trodAll_cons hA
  obtain ⟨v1, vs1, d1, ds1, p1, q1, rfl, rfl, rfl, h1, r1⟩ := trodAll_cons r0
  obtain ⟨v2, vs2, d2, ds2, p2, q2, rfl, rfl, rfl, h2, r2⟩ := trodAll_cons r1
  obtain ⟨v3, vs3, d3, ds3, p3, q3, rfl, rfl, rfl, h3, r3⟩ := trodAll_cons r2
  obtain ⟨v4, vs4, d4, ds4, p4, q4, rfl, rfl, rfl, h4, r4⟩ := trodAll_cons r3
  obtain ⟨v5, vs5, d5, ds5, p5, q5, rfl, rfl, rfl, h5, r5⟩ := trodAll_cons r4
  obtain ⟨v6, vs6, d6, ds6, p6, q6, rfl, rfl, rfl, h6, r6⟩ := trodAll_cons r5
  obtain ⟨rfl, rfl, rfl⟩ := trodAll_nil r6
  obtain rfl : args = #[v0, v1, v2, v3, v4, v5, v6] := by cases args; simp_all
  obtain ⟨rfl, rfl⟩ := trodVars_none hV
  obtain ⟨D0, P0, Q0, rfl, w0⟩ := open_dk_sized Try.underlying25 (by kernel_rfl) (by kernel_rfl) Try.underlying9 Try.underlying22 Try.underlying3 Try.underlying4 Try.underlying23 Try.underlying45 (by kernel_rfl) (by kernel_rfl) Try.underlying3 Try.underlying9 Try.underlying3 (by kernel_rfl) (hval 0 25 v0 rfl rfl) h0 (weights_each hsz (j := 0) rfl rfl)
  obtain ⟨D1, P1, Q1, rfl, w1⟩ := open_plan Try.underlying28 (by kernel_rfl) (by kernel_rfl) Try.underlying23 Try.underlying26 Try.underlying3 (by kernel_rfl) Try.underlying9 (by kernel_rfl) (hval 1 28 v1 rfl rfl) h1
  obtain ⟨a2, rfl, rfl, rfl, w2⟩ := open_int Try.underlying3 (hval 2 3 v2 rfl rfl) h2
  obtain ⟨a3, rfl, rfl, rfl, w3⟩ := open_string Try.underlying9 (hval 3 9 v3 rfl rfl) h3
  obtain ⟨a4, rfl, rfl, rfl, w4⟩ := open_int Try.underlying3 (hval 4 3 v4 rfl rfl) h4
  obtain ⟨a5, rfl, rfl, rfl, w5⟩ := open_string Try.underlying9 (hval 5 9 v5 rfl rfl) h5
  obtain ⟨a6, rfl, rfl, rfl, w6⟩ := open_int Try.underlying3 (hval 6 3 v6 rfl rfl) h6
  clear hA0 hval0
  simp only [List.append_nil] at hW'
  refine (walk W D0 P0 Q0 w0 D1 P1 Q1 w1 a2 w2 a3 w3 a4 w4 a5 w5 a6 w6).mono fun e W' ⟨he, hb⟩ => ?_
  subst he
  exact ⟨_, rfl, post_of_below (pa := _) (pv := []) hW' (fun _ _ _ => (trodAll_cons_mk (shut_bool Try.underlying4 _) trodAll_mk0)) (fun sp hsp => trodAll_stays (by kernel_rfl) hb (by kernel_rfl) hAk (fun x hx => hW'.lt x (by simpa using hx)) (fun x hx => hsp x (by simpa using hx))) (fun _ _ => rfl) (by simp) hb (ok_one (by kernel_rfl) rfl (okWide_bool_mk Try.underlying4 _))⟩
theorem over_ : Rows.planOrderRow.holds Try.pinned (OpenSpec.ofChange Rows.planOrderSpec) :=
  OpenClaim.holds_of_wide 4 Try.f4 rfl rfl rfl rfl rfl rfl rfl ⟨rfl, rfl, rfl, rfl, rfl⟩ rfl rfl rfl rfl rfl (by kernel_rfl) Try.func4 (by kernel_rfl)
    (of_decide_eq_true (by kernel_rfl)) (by unfold Func.isWrapper; first | (rw [if_pos (by decide +kernel)]; kernel_rfl) | (rw [if_neg (by decide +kernel)]; exact ⟨rfl, rfl⟩))
    (fun os started H enc _ => lifted os started H enc)
/-- The statement. -/
theorem proved : Rows.PlanOrderSaid := over_
#print axioms proved
end Go.Proofs.Ytjpjpiejcpeepaa.planOrder
