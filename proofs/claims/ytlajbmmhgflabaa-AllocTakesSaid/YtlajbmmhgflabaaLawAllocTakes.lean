/- AllocTakes: what is taken was counted neither by the plan nor on the device, and is counted once then; one more is in use; the next one taken is another one: any device, any plan, any geometry. No condition. -/
import Derived.Test.YtlajbmmhgflabaaLaw09a
import Derived.Test.YtlajbmmhgflabaaGood3
import Derived.Test.YtlajbmmhgflabaaOpen3
import Derived.Test.YtlajbmmhgflabaaShut
set_option linter.unusedVariables false
namespace Go.Proofs.Ytlajbmmhgflabaa.allocTakes
open Go.RowKit Go.Shelf Go.WideShapes Go.ChangeShapes Go.ChangeAt
open Go.ChangeMaps (open_string shut_string)
attribute [local go_sem] bs_mk bs_append bs_extract bs_size bs_toList bs_get

set_option maxRecDepth 100000 in
theorem walk_no (D : Dk) (L : Pn) (p q p' q' : Pl) (g h : Int) (w : World) (h0 : IsDk0 w D p q) (hbl : D.bad.length ≤ 17592186044416) (hL : IsPn w L p' q') (hg : (good D L && geomOk g h) = false) :
    Calls Try.prog 11 #[dval D p q, pval L p' q', gval g h] w fun e w' => e = .returned (.bool true) ∧ Below w.heap.size w w' := by
  have hG := fun (W : World) (hb : Below w.heap.size w W) => good09 D L p q p' q' g h W (h0.below hb) (hL.below hb) hbl
  rw [hg] at hG
  clear h0 hL hg
  obtain ⟨A1, a1⟩ := p
  obtain ⟨A2, a2⟩ := q
  obtain ⟨B1, b1⟩ := p'
  obtain ⟨B2, b2⟩ := q'
  have hB := Below.refl w.heap.size w
  have x := Blk.new w 25 #[.string (bs D.data), .slice A1 D.cache.length a1, .int .i64 D.fuse, .bool D.off, .slice A2 D.bad.length a2]
  have xk := blk5 x
  have hB_1 := hB.alloc hB.size (.cells #[.string (bs D.data), .slice A1 D.cache.length a1, .int .i64 D.fuse, .bool D.off, .slice A2 D.bad.length a2] 25)
  have z := Blk.new (w.alloc (.cells #[.string (bs D.data), .slice A1 D.cache.length a1, .int .i64 D.fuse, .bool D.off, .slice A2 D.bad.length a2] 25)) 28 #[.slice B1 L.targets.length b1, .slice B2 L.data.length b2]
  simp only [World.size_alloc] at z
  have zk := blk2 z
  have hB_2 := hB_1.alloc hB_1.size (.cells #[.slice B1 L.targets.length b1, .slice B2 L.data.length b2] 28)
  have x_3 := x.alloc (.cells #[.slice B1 L.targets.length b1, .slice B2 L.data.length b2] 28)
  have xk_3 := blk5 x_3
  have y := Blk.new ((w.alloc (.cells #[.string (bs D.data), .slice A1 D.cache.length a1, .int .i64 D.fuse, .bool D.off, .slice A2 D.bad.length a2] 25)).alloc (.cells #[.slice B1 L.targets.length b1, .slice B2 L.data.length b2] 28)) 67 #[.int .i64 g, .int .i64 h]
  simp only [World.size_alloc] at y
  have yk := blk2 y
  have hB_4 := hB_2.alloc hB_2.size (.cells #[.int .i64 g, .int .i64 h] 67)
  have x_5 := x_3.alloc (.cells #[.int .i64 g, .int .i64 h] 67)
  have xk_5 := blk5 x_5
  have z_6 := z.alloc (.cells #[.int .i64 g, .int .i64 h] 67)
  have zk_6 := blk2 z_6
  go_enter Try.func11, Try.ntmps11
  go_wp2_with fail
  go_at_call 38
  refine ((hG _ hB_4)).mono ?_
  rintro e w1 ⟨rfl, hb1⟩
  replace hB := bt hB_4 hb1
  replace x := x_5.below hb1 x_5.lt
  replace xk := blk5 x
  replace z := z_6.below hb1 z_6.lt
  replace zk := blk2 z
  replace y := y.below hb1 y.lt
  replace yk := blk2 y
  clear hB_1 hB_2 xk_3 x_3 hB_4 xk_5 x_5 zk_6 z_6
  go_wp2_with fail
  go_at_call 39
  refine ((awake09 _)).mono ?_
  rintro e w2 ⟨rfl, hb2⟩
  replace hB := bt hB hb2
  replace x := x.below hb2 x.lt
  replace xk := blk5 x
  replace z := z.below hb2 z.lt
  replace zk := blk2 z
  replace y := y.below hb2 y.lt
  replace yk := blk2 y
  go_wp2_with fail
  go_ret
  exact ⟨rfl, hB⟩

set_option maxRecDepth 100000 in
set_option maxHeartbeats 1000000 in
theorem walk_ok (D : Dk) (L : Pn) (p q p' q' : Pl) (g : Int) (h : Nat) (hh : h ≤ 256) (w : World) (h0 : IsDk0 w D p q) (hbl : D.bad.length ≤ 17592186044416) (hL : IsPn w L p' q') (hgd : good D L = true) (hgo : geomOk g h = true) :
    Calls Try.prog 11 #[dval D p q, pval L p' q', gval g h] w fun e w' => e = .returned (.bool true) ∧ Below w.heap.size w w' := by
  obtain ⟨g1, g2, g3, g4⟩ := good_iff.1 hgd
  have hD := h0.full (by omega) hbl (by omega)
  have hG := fun (W : World) (hb : Below w.heap.size w W) => good09 D L p q p' q' g h W (h0.below hb) (hL.below hb) hbl
  rw [hgd, hgo] at hG
  have hdl := (Dk.fit_parts g3).2.2.1
  have h3 := fun (W : World) (hb : Below w.heap.size w W) => al_take D L p q p' q' W (hD.below hb) (hL.below hb) g3 g4 g h hh
  have h5 := fun (W : World) (hb : Below w.heap.size w W) => al_used D L p q p' q' W (hD.below hb) (hL.below hb) g3 g4 g h hh
  have hc := Pn.alTake_cases D L h
  have hm : 0 ≤ (Pn.alUsed D L h).1 ∧ (Pn.alUsed D L h).1 ≤ 1000000 := by
    have h1 := Pn.cntAll_len (D := D) (L := L) h
    have h2 := Pn.used_le (Pn.cntAll D L h).1 (Pn.cntAll D L h).1.length
    rw [List.take_length] at h2
    simp only [Pn.alUsed]
    omega
  have hok := fun (k : Nat) (X : Pn) (hk : (k : Int) < h) (a1 : Pn.cntGet D L k = (0, 0)) (a2 : Pn.cntAdd D L k 1 = (X, 0)) => Pn.alTake_ok g3 g4 (by omega) hk a1 a2
  have r1 := fun (W : World) (hb : Below w.heap.size w W) (k : Nat) => r8_get D L p q p' q' W (hD.below hb) (hL.below hb) g3 g4 k
  have r2 := fun (W : World) (hb : Below w.heap.size w W) (k : Nat) => r8_get D Pn.none p q ⟨Option.none, 0⟩ ⟨Option.none, 0⟩ W (hD.below hb) (isPn_zero _) g3 Pn.none_fit k
  have r3 := fun (X : Pn) (hX : X.Fit) (p1 q1 : Pl) (W : World) (hb : Below w.heap.size w W) (h' : IsPn W X p1 q1) (k : Nat) => r8_get D X p q p1 q1 W (hD.below hb) h' g3 hX k
  have r4 := fun (X : Pn) (hX : X.Fit) (p1 q1 : Pl) (W : World) (hb : Below w.heap.size w W) (h' : IsPn W X p1 q1) => al_used D X p q p1 q1 W (hD.below hb) h' g3 hX g h hh
  have r5 := fun (X : Pn) (hX : X.Fit) (p1 q1 : Pl) (W : World) (hb : Below w.heap.size w W) (h' : IsPn W X p1 q1) => al_take D X p q p1 q1 W (hD.below hb) h' g3 hX g h hh
  have hsm := fun (W : World) (p2 q2 : Pl) (hb : Below w.heap.size w W) (h' : IsPn W L p2 q2) => r5_same L L p' q' p2 q2 W (hL.below hb) h' (by have := g4.2.1; omega) (by have := g4.2.1; have := g4.1; omega) (by have := g4.2.1; omega) (by have := g4.2.1; have := g4.1; omega)
  rw [Pn.same_self] at hsm
  generalize Pn.alTake D L h = T at h3 hc
  obtain ⟨X, k', e⟩ := T
  simp only at h3 hc
  rcases hc with ⟨k, X', hk, hT, a1, a2, a3⟩ | ⟨he, hXL, rfl⟩
  case inr =>
    have hLX := hXL.symm
    subst hLX
    have n1 : (e != 0) = true := by simpa using he
    clear h0 hL hgd hgo hD g1 g2 g3 g4 hdl he hok r1 r2 r3 r4 r5 h5
    obtain ⟨A1, a1⟩ := p
    obtain ⟨A2, a2⟩ := q
    obtain ⟨B1, b1⟩ := p'
    obtain ⟨B2, b2⟩ := q'
    have hB := Below.refl w.heap.size w
    have x := Blk.new w 25 #[.string (bs D.data), .slice A1 D.cache.length a1, .int .i64 D.fuse, .bool D.off, .slice A2 D.bad.length a2]
    have xk := blk5 x
    have hB_1 := hB.alloc hB.size (.cells #[.string (bs D.data), .slice A1 D.cache.length a1, .int .i64 D.fuse, .bool D.off, .slice A2 D.bad.length a2] 25)
    have z := Blk.new (w.alloc (.cells #[.string (bs D.data), .slice A1 D.cache.length a1, .int .i64 D.fuse, .bool D.off, .slice A2 D.bad.length a2] 25)) 28 #[.slice B1 L.targets.length b1, .slice B2 L.data.length b2]
    simp only [World.size_alloc] at z
    have zk := blk2 z
    have hB_2 := hB_1.alloc hB_1.size (.cells #[.slice B1 L.targets.length b1, .slice B2 L.data.length b2] 28)
    have x_3 := x.alloc (.cells #[.slice B1 L.targets.length b1, .slice B2 L.data.length b2] 28)
    have xk_3 := blk5 x_3
    have y := Blk.new ((w.alloc (.cells #[.string (bs D.data), .slice A1 D.cache.length a1, .int .i64 D.fuse, .bool D.off, .slice A2 D.bad.length a2] 25)).alloc (.cells #[.slice B1 L.targets.length b1, .slice B2 L.data.length b2] 28)) 67 #[.int .i64 g, .int .i64 h]
    simp only [World.size_alloc] at y
    have yk := blk2 y
    have hB_4 := hB_2.alloc hB_2.size (.cells #[.int .i64 g, .int .i64 h] 67)
    have x_5 := x_3.alloc (.cells #[.int .i64 g, .int .i64 h] 67)
    have xk_5 := blk5 x_5
    have z_6 := z.alloc (.cells #[.int .i64 g, .int .i64 h] 67)
    have zk_6 := blk2 z_6
    go_enter Try.func11, Try.ntmps11
    go_wp2_with fail
    go_at_call 38
    refine ((hG _ hB_4)).mono ?_
    rintro e w1 ⟨rfl, hb1⟩
    replace hB := bt hB_4 hb1
    replace x := x_5.below hb1 x_5.lt
    replace xk := blk5 x
    replace z := z_6.below hb1 z_6.lt
    replace zk := blk2 z
    replace y := y.below hb1 y.lt
    replace yk := blk2 y
    clear hB_1 hB_2 xk_3 x_3 hB_4 xk_5 x_5 zk_6 z_6
    go_wp2_with fail
    go_at_call 42
    refine ((h3 _ hB)).mono ?_
    rintro e w4 ⟨p1, q1, rfl, i1, o1, hb4⟩
    replace hB := bt hB hb4
    replace x := x.below hb4 x.lt
    replace xk := blk5 x
    replace z := z.below hb4 z.lt
    replace zk := blk2 z
    replace y := y.below hb4 y.lt
    replace yk := blk2 y
    have s := Blk.new w4 28 #[.slice p1.a L.targets.length p1.c, .slice q1.a L.data.length q1.c]
    have sk := blk2 s
    have hB_7 := hB.alloc hB.size (.cells #[.slice p1.a L.targets.length p1.c, .slice q1.a L.data.length q1.c] 28)
    have x_8 := x.alloc (.cells #[.slice p1.a L.targets.length p1.c, .slice q1.a L.data.length q1.c] 28)
    have xk_8 := blk5 x_8
    have z_9 := z.alloc (.cells #[.slice p1.a L.targets.length p1.c, .slice q1.a L.data.length q1.c] 28)
    have zk_9 := blk2 z_9
    have y_10 := y.alloc (.cells #[.slice p1.a L.targets.length p1.c, .slice q1.a L.data.length q1.c] 28)
    have yk_10 := blk2 y_10
    have i1_11 := i1.below ((Below.refl _ _).alloc (Nat.le_refl _) (.cells #[.slice p1.a L.targets.length p1.c, .slice q1.a L.data.length q1.c] 28))
    go_wp2_with fail
    go_at_call 16
    refine ((hsm _ p1 q1 hB_7 i1_11)).mono ?_
    rintro e w8 ⟨rfl, hb8⟩
    replace hB := bt hB_7 hb8
    replace x := x_8.below hb8 x_8.lt
    replace xk := blk5 x
    replace z := z_9.below hb8 z_9.lt
    replace zk := blk2 z
    replace y := y_10.below hb8 y_10.lt
    replace yk := blk2 y
    replace i1 := i1_11.below hb8
    replace s := s.below hb8 s.lt
    replace sk := blk2 s
    clear hB_7 xk_8 x_8 zk_9 z_9 yk_10 y_10 i1_11
    go_wp2_with fail
    go_at_call 39
    refine ((awake09 _)).mono ?_
    rintro e w9 ⟨rfl, hb9⟩
    replace hB := bt hB hb9
    replace x := x.below hb9 x.lt
    replace xk := blk5 x
    replace z := z.below hb9 z.lt
    replace zk := blk2 z
    replace y := y.below hb9 y.lt
    replace yk := blk2 y
    replace i1 := i1.below hb9
    replace s := s.below hb9 s.lt
    replace sk := blk2 s
    go_wp2_with fail
    go_ret
    exact ⟨rfl, hB⟩
  injection hT with e1 e2
  injection e2 with e2 e3
  subst e1; subst e2; subst e3
  obtain ⟨f1, f2, f3, f4, f5⟩ := hok k X hk a1 a3
  have q1' := fun W hb => r1 W hb k
  have q2' := fun W hb => r2 W hb k
  have q3' := fun p1 q1 W hb h' => r3 X f1 p1 q1 W hb h' k
  have q4' := r4 X f1
  have q5' := r5 X f1
  rw [a1] at q1'
  rw [a2] at q2'
  rw [f2] at q3'
  have hft := fun (W : World) (p1 q1 : Pl) (h' : IsPn W X p1 q1) => r5_fit X p1 q1 W h'
  rw [show X.fit = true from Pn.fit_iff.2 f1] at hft
  have kl : (0 : Int) ≤ k ∧ (k : Int) < 256 := by omega
  generalize Pn.alUsed D L h = M at h5 f3 f4 hm
  generalize Pn.alUsed D X h = M' at q4' f3 f4
  obtain ⟨m, f⟩ := M
  obtain ⟨m', f'⟩ := M'
  generalize Pn.alTake D X h = Y at q5' f5
  obtain ⟨Y, j, i⟩ := Y
  simp only at h3 h5 q1' q2' q3' q4' q5' f3 f4 f5 hm
  obtain ⟨hm1, hm2⟩ := hm
  subst f3
  clear h0 hL hgd hgo hD g1 g2 g3 g4 hdl hok r1 r2 r3 r4 r5 hsm a1 a2 a3 f1 f2
  obtain ⟨A1, a1⟩ := p
  obtain ⟨A2, a2⟩ := q
  obtain ⟨B1, b1⟩ := p'
  obtain ⟨B2, b2⟩ := q'
  have hB := Below.refl w.heap.size w
  have x := Blk.new w 25 #[.string (bs D.data), .slice A1 D.cache.length a1, .int .i64 D.fuse, .bool D.off, .slice A2 D.bad.length a2]
  have xk := blk5 x
  have hB_1 := hB.alloc hB.size (.cells #[.string (bs D.data), .slice A1 D.cache.length a1, .int .i64 D.fuse, .bool D.off, .slice A2 D.bad.length a2] 25)
  have z := Blk.new (w.alloc (.cells #[.string (bs D.data), .slice A1 D.cache.length a1, .int .i64 D.fuse, .bool D.off, .slice A2 D.bad.length a2] 25)) 28 #[.slice B1 L.targets.length b1, .slice B2 L.data.length b2]
  simp only [World.size_alloc] at z
  have zk := blk2 z
  have hB_2 := hB_1.alloc hB_1.size (.cells #[.slice B1 L.targets.length b1, .slice B2 L.data.length b2] 28)
  have x_3 := x.alloc (.cells #[.slice B1 L.targets.length b1, .slice B2 L.data.length b2] 28)
  have xk_3 := blk5 x_3
  have y := Blk.new ((w.alloc (.cells #[.string (bs D.data), .slice A1 D.cache.length a1, .int .i64 D.fuse, .bool D.off, .slice A2 D.bad.length a2] 25)).alloc (.cells #[.slice B1 L.targets.length b1, .slice B2 L.data.length b2] 28)) 67 #[.int .i64 g, .int .i64 h]
  simp only [World.size_alloc] at y
  have yk := blk2 y
  have hB_4 := hB_2.alloc hB_2.size (.cells #[.int .i64 g, .int .i64 h] 67)
  have x_5 := x_3.alloc (.cells #[.int .i64 g, .int .i64 h] 67)
  have xk_5 := blk5 x_5
  have z_6 := z.alloc (.cells #[.int .i64 g, .int .i64 h] 67)
  have zk_6 := blk2 z_6
  go_enter Try.func11, Try.ntmps11
  go_wp2_with fail
  go_at_call 38
  refine ((hG _ hB_4)).mono ?_
  rintro e w1 ⟨rfl, hb1⟩
  replace hB := bt hB_4 hb1
  replace x := x_5.below hb1 x_5.lt
  replace xk := blk5 x
  replace z := z_6.below hb1 z_6.lt
  replace zk := blk2 z
  replace y := y.below hb1 y.lt
  replace yk := blk2 y
  clear hB_1 hB_2 xk_3 x_3 hB_4 xk_5 x_5 zk_6 z_6
  go_wp2_with fail
  go_at_call 42
  refine ((h3 _ hB)).mono ?_
  rintro e w2 ⟨p1, q1, rfl, i1, o1, hb2⟩
  replace hB := bt hB hb2
  replace x := x.below hb2 x.lt
  replace xk := blk5 x
  replace z := z.below hb2 z.lt
  replace zk := blk2 z
  replace y := y.below hb2 y.lt
  replace yk := blk2 y
  have s := Blk.new w2 28 #[.slice p1.a X.targets.length p1.c, .slice q1.a X.data.length q1.c]
  have sk := blk2 s
  have hB_7 := hB.alloc hB.size (.cells #[.slice p1.a X.targets.length p1.c, .slice q1.a X.data.length q1.c] 28)
  have x_8 := x.alloc (.cells #[.slice p1.a X.targets.length p1.c, .slice q1.a X.data.length q1.c] 28)
  have xk_8 := blk5 x_8
  have z_9 := z.alloc (.cells #[.slice p1.a X.targets.length p1.c, .slice q1.a X.data.length q1.c] 28)
  have zk_9 := blk2 z_9
  have y_10 := y.alloc (.cells #[.slice p1.a X.targets.length p1.c, .slice q1.a X.data.length q1.c] 28)
  have yk_10 := blk2 y_10
  have i1_11 := i1.below ((Below.refl _ _).alloc (Nat.le_refl _) (.cells #[.slice p1.a X.targets.length p1.c, .slice q1.a X.data.length q1.c] 28))
  go_wp2_with fail
  go_at_call 46
  refine ((hft _ p1 q1 i1_11)).mono ?_
  rintro e w3 ⟨rfl, hb3⟩
  replace hB := bt hB_7 hb3
  replace x := x_8.below hb3 x_8.lt
  replace xk := blk5 x
  replace z := z_9.below hb3 z_9.lt
  replace zk := blk2 z
  replace y := y_10.below hb3 y_10.lt
  replace yk := blk2 y
  replace i1 := i1_11.below hb3
  replace s := s.below hb3 s.lt
  replace sk := blk2 s
  clear hB_7 xk_8 x_8 zk_9 z_9 yk_10 y_10 i1_11
  go_wp2_with fail
  go_at_call 18
  refine ((q1' _ hB)).mono ?_
  rintro e w4 ⟨rfl, hb4⟩
  replace hB := bt hB hb4
  replace x := x.below hb4 x.lt
  replace xk := blk5 x
  replace z := z.below hb4 z.lt
  replace zk := blk2 z
  replace y := y.below hb4 y.lt
  replace yk := blk2 y
  replace i1 := i1.below hb4
  replace s := s.below hb4 s.lt
  replace sk := blk2 s
  go_wp2_with fail
  go_at_call 18
  refine ((q2' _ hB)).mono ?_
  rintro e w5 ⟨rfl, hb5⟩
  replace hB := bt hB hb5
  replace x := x.below hb5 x.lt
  replace xk := blk5 x
  replace z := z.below hb5 z.lt
  replace zk := blk2 z
  replace y := y.below hb5 y.lt
  replace yk := blk2 y
  replace i1 := i1.below hb5
  replace s := s.below hb5 s.lt
  replace sk := blk2 s
  go_wp2_with fail
  go_at_call 18
  refine ((q3' p1 q1 _ hB i1)).mono ?_
  rintro e w6 ⟨rfl, hb6⟩
  replace hB := bt hB hb6
  replace x := x.below hb6 x.lt
  replace xk := blk5 x
  replace z := z.below hb6 z.lt
  replace zk := blk2 z
  replace y := y.below hb6 y.lt
  replace yk := blk2 y
  replace i1 := i1.below hb6
  replace s := s.below hb6 s.lt
  replace sk := blk2 s
  go_wp2_with fail
  go_at_call 44
  refine ((h5 _ hB)).mono ?_
  rintro e w7 ⟨rfl, hb7⟩
  replace hB := bt hB hb7
  replace x := x.below hb7 x.lt
  replace xk := blk5 x
  replace z := z.below hb7 z.lt
  replace zk := blk2 z
  replace y := y.below hb7 y.lt
  replace yk := blk2 y
  replace i1 := i1.below hb7
  replace s := s.below hb7 s.lt
  replace sk := blk2 s
  by_cases hf0 : f' = 0
  · have hm' := f4 hf0
    subst hf0
    subst hm'
    clear f4
    go_wp2_with fail
    go_at_call 44
    refine ((q4' p1 q1 _ hB i1)).mono ?_
    rintro e w8 ⟨rfl, hb8⟩
    replace hB := bt hB hb8
    replace x := x.below hb8 x.lt
    replace xk := blk5 x
    replace z := z.below hb8 z.lt
    replace zk := blk2 z
    replace y := y.below hb8 y.lt
    replace yk := blk2 y
    replace i1 := i1.below hb8
    replace s := s.below hb8 s.lt
    replace sk := blk2 s
    by_cases hi : i = 0
    · have n3 : (j != (k : Int)) = true := by simpa using f5 hi
      have f5' := hid f5
      subst hi
      clear f5
      go_wp2_with fail
      go_at_call 42
      refine ((q5' p1 q1 _ hB i1)).mono ?_
      rintro e w9 ⟨p5, q5, rfl, i5, o5, hb9⟩
      replace hB := bt hB hb9
      replace x := x.below hb9 x.lt
      replace xk := blk5 x
      replace z := z.below hb9 z.lt
      replace zk := blk2 z
      replace y := y.below hb9 y.lt
      replace yk := blk2 y
      replace i1 := i1.below hb9
      replace s := s.below hb9 s.lt
      replace sk := blk2 s
      have hB_12 := hB.alloc hB.size (.cells #[.slice p5.a Y.targets.length p5.c, .slice q5.a Y.data.length q5.c] 28)
      have x_13 := x.alloc (.cells #[.slice p5.a Y.targets.length p5.c, .slice q5.a Y.data.length q5.c] 28)
      have xk_13 := blk5 x_13
      have z_14 := z.alloc (.cells #[.slice p5.a Y.targets.length p5.c, .slice q5.a Y.data.length q5.c] 28)
      have zk_14 := blk2 z_14
      have y_15 := y.alloc (.cells #[.slice p5.a Y.targets.length p5.c, .slice q5.a Y.data.length q5.c] 28)
      have yk_15 := blk2 y_15
      have i1_16 := i1.below ((Below.refl _ _).alloc (Nat.le_refl _) (.cells #[.slice p5.a Y.targets.length p5.c, .slice q5.a Y.data.length q5.c] 28))
      have s_17 := s.alloc (.cells #[.slice p5.a Y.targets.length p5.c, .slice q5.a Y.data.length q5.c] 28)
      have sk_17 := blk2 s_17
      go_wp2_with fail
      go_at_call 39
      refine ((awake09 _)).mono ?_
      rintro e w10 ⟨rfl, hb10⟩
      replace hB := bt hB_12 hb10
      replace x := x_13.below hb10 x_13.lt
      replace xk := blk5 x
      replace z := z_14.below hb10 z_14.lt
      replace zk := blk2 z
      replace y := y_15.below hb10 y_15.lt
      replace yk := blk2 y
      replace i1 := i1_16.below hb10
      replace s := s_17.below hb10 s_17.lt
      replace sk := blk2 s
      clear hB_12 xk_13 x_13 zk_14 z_14 yk_15 y_15 i1_16 sk_17 s_17
      go_wp2_with fail
      go_ret
      exact ⟨rfl, hB⟩
    · have n3 : (i != 0) = true := by simpa using hi
      clear hi f5
      go_wp2_with fail
      go_at_call 42
      refine ((q5' p1 q1 _ hB i1)).mono ?_
      rintro e w9 ⟨p5, q5, rfl, i5, o5, hb9⟩
      replace hB := bt hB hb9
      replace x := x.below hb9 x.lt
      replace xk := blk5 x
      replace z := z.below hb9 z.lt
      replace zk := blk2 z
      replace y := y.below hb9 y.lt
      replace yk := blk2 y
      replace i1 := i1.below hb9
      replace s := s.below hb9 s.lt
      replace sk := blk2 s
      have hB_12 := hB.alloc hB.size (.cells #[.slice p5.a Y.targets.length p5.c, .slice q5.a Y.data.length q5.c] 28)
      have x_13 := x.alloc (.cells #[.slice p5.a Y.targets.length p5.c, .slice q5.a Y.data.length q5.c] 28)
      have xk_13 := blk5 x_13
      have z_14 := z.alloc (.cells #[.slice p5.a Y.targets.length p5.c, .slice q5.a Y.data.length q5.c] 28)
      have zk_14 := blk2 z_14
      have y_15 := y.alloc (.cells #[.slice p5.a Y.targets.length p5.c, .slice q5.a Y.data.length q5.c] 28)
      have yk_15 := blk2 y_15
      have i1_16 := i1.below ((Below.refl _ _).alloc (Nat.le_refl _) (.cells #[.slice p5.a Y.targets.length p5.c, .slice q5.a Y.data.length q5.c] 28))
      have s_17 := s.alloc (.cells #[.slice p5.a Y.targets.length p5.c, .slice q5.a Y.data.length q5.c] 28)
      have sk_17 := blk2 s_17
      go_wp2_with fail
      go_at_call 39
      refine ((awake09 _)).mono ?_
      rintro e w10 ⟨rfl, hb10⟩
      replace hB := bt hB_12 hb10
      replace x := x_13.below hb10 x_13.lt
      replace xk := blk5 x
      replace z := z_14.below hb10 z_14.lt
      replace zk := blk2 z
      replace y := y_15.below hb10 y_15.lt
      replace yk := blk2 y
      replace i1 := i1_16.below hb10
      replace s := s_17.below hb10 s_17.lt
      replace sk := blk2 s
      clear hB_12 xk_13 x_13 zk_14 z_14 yk_15 y_15 i1_16 sk_17 s_17
      go_wp2_with fail
      go_ret
      exact ⟨rfl, hB⟩
  · have n1 : (f' != 0) = true := by simpa using hf0
    have n2 : (f' == 0) = false := by simpa using hf0
    clear f4 hf0
    go_wp2_with fail
    go_at_call 44
    refine ((q4' p1 q1 _ hB i1)).mono ?_
    rintro e w8 ⟨rfl, hb8⟩
    replace hB := bt hB hb8
    replace x := x.below hb8 x.lt
    replace xk := blk5 x
    replace z := z.below hb8 z.lt
    replace zk := blk2 z
    replace y := y.below hb8 y.lt
    replace yk := blk2 y
    replace i1 := i1.below hb8
    replace s := s.below hb8 s.lt
    replace sk := blk2 s
    by_cases hi : i = 0
    · have n3 : (j != (k : Int)) = true := by simpa using f5 hi
      have f5' := hid f5
      subst hi
      clear f5
      go_wp2_with fail
      go_at_call 42
      refine ((q5' p1 q1 _ hB i1)).mono ?_
      rintro e w9 ⟨p5, q5, rfl, i5, o5, hb9⟩
      replace hB := bt hB hb9
      replace x := x.below hb9 x.lt
      replace xk := blk5 x
      replace z := z.below hb9 z.lt
      replace zk := blk2 z
      replace y := y.below hb9 y.lt
      replace yk := blk2 y
      replace i1 := i1.below hb9
      replace s := s.below hb9 s.lt
      replace sk := blk2 s
      have hB_12 := hB.alloc hB.size (.cells #[.slice p5.a Y.targets.length p5.c, .slice q5.a Y.data.length q5.c] 28)
      have x_13 := x.alloc (.cells #[.slice p5.a Y.targets.length p5.c, .slice q5.a Y.data.length q5.c] 28)
      have xk_13 := blk5 x_13
      have z_14 := z.alloc (.cells #[.slice p5.a Y.targets.length p5.c, .slice q5.a Y.data.length q5.c] 28)
      have zk_14 := blk2 z_14
      have y_15 := y.alloc (.cells #[.slice p5.a Y.targets.length p5.c, .slice q5.a Y.data.length q5.c] 28)
      have yk_15 := blk2 y_15
      have i1_16 := i1.below ((Below.refl _ _).alloc (Nat.le_refl _) (.cells #[.slice p5.a Y.targets.length p5.c, .slice q5.a Y.data.length q5.c] 28))
      have s_17 := s.alloc (.cells #[.slice p5.a Y.targets.length p5.c, .slice q5.a Y.data.length q5.c] 28)
      have sk_17 := blk2 s_17
      go_wp2_with fail
      go_at_call 39
      refine ((awake09 _)).mono ?_
      rintro e w10 ⟨rfl, hb10⟩
      replace hB := bt hB_12 hb10
      replace x := x_13.below hb10 x_13.lt
      replace xk := blk5 x
      replace z := z_14.below hb10 z_14.lt
      replace zk := blk2 z
      replace y := y_15.below hb10 y_15.lt
      replace yk := blk2 y
      replace i1 := i1_16.below hb10
      replace s := s_17.below hb10 s_17.lt
      replace sk := blk2 s
      clear hB_12 xk_13 x_13 zk_14 z_14 yk_15 y_15 i1_16 sk_17 s_17
      go_wp2_with fail
      go_ret
      exact ⟨rfl, hB⟩
    · have n3 : (i != 0) = true := by simpa using hi
      clear hi f5
      go_wp2_with fail
      go_at_call 42
      refine ((q5' p1 q1 _ hB i1)).mono ?_
      rintro e w9 ⟨p5, q5, rfl, i5, o5, hb9⟩
      replace hB := bt hB hb9
      replace x := x.below hb9 x.lt
      replace xk := blk5 x
      replace z := z.below hb9 z.lt
      replace zk := blk2 z
      replace y := y.below hb9 y.lt
      replace yk := blk2 y
      replace i1 := i1.below hb9
      replace s := s.below hb9 s.lt
      replace sk := blk2 s
      have hB_12 := hB.alloc hB.size (.cells #[.slice p5.a Y.targets.length p5.c, .slice q5.a Y.data.length q5.c] 28)
      have x_13 := x.alloc (.cells #[.slice p5.a Y.targets.length p5.c, .slice q5.a Y.data.length q5.c] 28)
      have xk_13 := blk5 x_13
      have z_14 := z.alloc (.cells #[.slice p5.a Y.targets.length p5.c, .slice q5.a Y.data.length q5.c] 28)
      have zk_14 := blk2 z_14
      have y_15 := y.alloc (.cells #[.slice p5.a Y.targets.length p5.c, .slice q5.a Y.data.length q5.c] 28)
      have yk_15 := blk2 y_15
      have i1_16 := i1.below ((Below.refl _ _).alloc (Nat.le_refl _) (.cells #[.slice p5.a Y.targets.length p5.c, .slice q5.a Y.data.length q5.c] 28))
      have s_17 := s.alloc (.cells #[.slice p5.a Y.targets.length p5.c, .slice q5.a Y.data.length q5.c] 28)
      have sk_17 := blk2 s_17
      go_wp2_with fail
      go_at_call 39
      refine ((awake09 _)).mono ?_
      rintro e w10 ⟨rfl, hb10⟩
      replace hB := bt hB_12 hb10
      replace x := x_13.below hb10 x_13.lt
      replace xk := blk5 x
      replace z := z_14.below hb10 z_14.lt
      replace zk := blk2 z
      replace y := y_15.below hb10 y_15.lt
      replace yk := blk2 y
      replace i1 := i1_16.below hb10
      replace s := s_17.below hb10 s_17.lt
      replace sk := blk2 s
      clear hB_12 xk_13 x_13 zk_14 z_14 yk_15 y_15 i1_16 sk_17 s_17
      go_wp2_with fail
      go_ret
      exact ⟨rfl, hB⟩
theorem walk (w : World) (D : Dk) (p q : Pl) (hD : IsDk0 w D p q ∧ D.cache.length * Try.prog.bytesOf 118 ≤ reachBytes ∧ D.bad.length * Try.prog.bytesOf 3 ≤ reachBytes) (L : Pn) (p' q' : Pl) (hL : IsPn w L p' q') (g h : Int) (wg : okInt g ∧ okInt h) :
    Calls Try.prog 11 #[dval D p q, pval L p' q', gval g h] w fun e w' => e = .returned (.bool true) ∧ Below w.heap.size w w' := by
  obtain ⟨hD, c1, b1⟩ := hD
  rw [show Try.prog.bytesOf 3 = 8 by kernel_rfl] at b1
  unfold reachBytes at b1
  cases hg : (good D L && geomOk g h) with
  | false => exact walk_no D L p q p' q' g h w hD (by omega) hL hg
  | true =>
    obtain ⟨hgd, hgo⟩ : good D L = true ∧ geomOk g h = true := by simpa using hg
    have hgo' := hgo
    simp only [geomOk, Bool.and_eq_true, decide_eq_true_eq] at hgo'
    obtain ⟨n, rfl⟩ := Int.eq_ofNat_of_zero_le (show 0 ≤ h by omega)
    exact walk_ok D L p q p' q' g n (by omega) w hD (by omega) hL hgd hgo
/-! ### The row -/
theorem own : ownKnob Try.prog.godebug = none := by kernel_rfl
set_option maxRecDepth 100000 in
theorem lifted (os : Os) (started : os.Started) (H : Type) (enc : TypeId × Value → H) :
    ReturnsInHanded {} Try.checked os 11 .any (Rows.allocTakesSpec.pre6 enc Try.prog Try.f11 Rows.allocTakesRow.domain false) (Rows.allocTakesSpec.post enc Try.prog Try.f11 false true false false) := by
  refine returnsInHanded_of_change_sized (C := Try.checked) own started (by kernel_rfl) Try.func11
    (ChangeSpec.witness6 (enc := enc) (C := Try.checked) false ⟨#[], #[.agg #[.string ByteArray.empty, .slice none 0 0, .int .i64 0, .bool false, .slice none 0 0], .agg #[.slice none 0 0, .slice none 0 0], .agg #[.int .i64 0, .int .i64 0]], []⟩ 8 (by kernel_rfl) (by kernel_rfl) (by kernel_rfl) (by kernel_rfl)) ?_
  intro W base args ds gs before hval0 hW hcnd hsz0 _
  have hval : ∀ (j : Nat) t v, Try.f11.params[j]? = some t → args[j]? = some v → Value.okWide Try.prog W .any base t v := hval0
  have hW' := hW
  obtain ⟨p, q, hA0, hV, rfl, hfz, hnd⟩ := hW
  have hA : DataW.TrodAll enc Try.prog W 0 (fun _ => true) true Try.f11.params.toList args.toList ds p := hA0
  have hAk := hA
  have hsz : (DataW.weightsEach Try.prog (Try.f11.params.toList ++ Rows.allocTakesSpec.plain.varTypes Try.prog) (ds ++ gs)).all (· ≤ reachBytes) = true := hsz0
  rw [Try.params11] at hA hval hsz
  obtain ⟨v0, vs0, d0, ds0, p0, q0, hargs, rfl, rfl, h0, r0⟩ := trodAll_cons hA
  obtain ⟨v1, vs1, d1, ds1, p1, q1, rfl, rfl, rfl, h1, r1⟩ := trodAll_cons r0
  obtain ⟨v2, vs2, d2, ds2, p2, q2, rfl, rfl, rfl, h2, r2⟩ := trodAll_cons r1
  obtain ⟨rfl, rfl, rfl⟩ := trodAll_nil r2
  obtain rfl : args = #[v0, v1, v2] := by cases args; simp_all
  obtain ⟨rfl, rfl⟩ := trodVars_none hV
  obtain ⟨D0, P0, Q0, rfl, w0⟩ := open_dk_sized Try.underlying25 (by kernel_rfl) (by kernel_rfl) Try.underlying9 Try.underlying22 Try.underlying3 Try.underlying4 Try.underlying23 Try.underlying118 (by kernel_rfl) (by kernel_rfl) Try.underlying3 Try.underlying9 Try.underlying3 (by kernel_rfl) (hval 0 25 v0 rfl rfl) h0 (weights_each hsz (j := 0) rfl rfl)
  obtain ⟨D1, P1, Q1, rfl, w1⟩ := open_plan Try.underlying28 (by kernel_rfl) (by kernel_rfl) Try.underlying23 Try.underlying26 Try.underlying3 (by kernel_rfl) Try.underlying9 (by kernel_rfl) (hval 1 28 v1 rfl rfl) h1
  obtain ⟨a2, b2, rfl, w2⟩ := open_pair Try.underlying67 (by kernel_rfl) (by kernel_rfl) Try.underlying3 Try.underlying3 (hval 2 67 v2 rfl rfl) h2
  clear hA0 hval0
  simp only [List.append_nil] at hW'
  refine (walk W D0 P0 Q0 w0 D1 P1 Q1 w1 a2 b2 w2).mono fun e W' ⟨he, hb⟩ => ?_
  subst he
  exact ⟨_, rfl, post_of_below (pa := _) (pv := []) hW' (fun _ _ _ => (trodAll_cons_mk (shut_bool Try.underlying4 _) trodAll_mk0)) (fun sp hsp => trodAll_stays (by kernel_rfl) hb (by kernel_rfl) hAk (fun x hx => hW'.lt x (by simpa using hx)) (fun x hx => hsp x (by simpa using hx))) (fun _ _ => rfl) (by simp) hb (ok_one (by kernel_rfl) rfl (okWide_bool_mk Try.underlying4 _))⟩
theorem over_ : Rows.allocTakesRow.holds Try.pinned (OpenSpec.ofChange Rows.allocTakesSpec) :=
  OpenClaim.holds_of_wide 11 Try.f11 rfl rfl rfl rfl rfl rfl rfl ⟨rfl, rfl, rfl, rfl, rfl⟩ rfl rfl rfl rfl rfl (by kernel_rfl) Try.func11 (by kernel_rfl)
    (of_decide_eq_true (by kernel_rfl)) (by unfold Func.isWrapper; first | (rw [if_pos (by decide +kernel)]; kernel_rfl) | (rw [if_neg (by decide +kernel)]; exact ⟨rfl, rfl⟩))
    (fun os started H enc _ => lifted os started H enc)
/-- The statement. -/
theorem proved : Rows.AllocTakesSaid := over_
#print axioms proved
end Go.Proofs.Ytlajbmmhgflabaa.allocTakes
