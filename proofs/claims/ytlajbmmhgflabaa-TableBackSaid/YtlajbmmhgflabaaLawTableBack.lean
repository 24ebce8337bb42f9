/- TableBack: what is set is what is told; all other entries are as they were; a copy has the same entries, a blank table none: any device, any plan, any numbers, any entry. No condition. -/
import Derived.Test.YtlajbmmhgflabaaLaw11a
import Derived.Test.YtlajbmmhgflabaaTable9
import Derived.Test.YtlajbmmhgflabaaOpen3
import Derived.Test.YtlajbmmhgflabaaShut
set_option linter.unusedVariables false
namespace Go.Proofs.Ytlajbmmhgflabaa.tableBack
open Go.RowKit Go.Shelf Go.WideShapes Go.ChangeShapes Go.ChangeAt
open Go.ChangeMaps (open_string shut_string)
attribute [local go_sem] bs_mk bs_append bs_extract bs_size bs_toList bs_get

set_option maxRecDepth 100000 in
theorem walk_no (D : Dk) (L : Pn) (p q p' q' : Pl) (t i o k K A : Int) (w : World) (h0 : IsDk0 w D p q) (hbl : D.bad.length ≤ 17592186044416) (hL : IsPn w L p' q') (hg : good D L = false) :
    Calls Try.prog 9 #[dval D p q, pval L p' q', .int .i64 t, .int .i64 i, .int .i64 o, .int .i64 k, eval2 K A] w fun e w' => e = .returned (.bool true) ∧ Below w.heap.size w w' := by
  have hG := fun (W : World) (hb : Below w.heap.size w W) => good11 D L p q p' q' W (h0.below hb) (hL.below hb) hbl
  rw [hg] at hG
  clear h0 hL hg
  obtain ⟨A1, a1⟩ := p
  obtain ⟨A2, a2⟩ := q
  obtain ⟨B1, b1⟩ := p'
  obtain ⟨B2, b2⟩ := q'
  have hB := Below.refl w.heap.size w
  have x := Blk.new w 25 #[.string (bs D.data), .slice A1 D.cache.length a1, .int .i64 D.fuse, .bool D.off, .slice A2 D.bad.length a2]
  have xk := blk5 x
  have hB_1 := hB.alloc hB.size (.cells #[.string (bs D.data), .slice A1 D.cache.length a1, .int .i64 D.fuse, .bool D.off, .slice A2 D.bad.length a2] 25)
  have z := Blk.new (w.alloc (.cells #[.string (bs D.data), .slice A1 D.cache.length a1, .int .i64 D.fuse, .bool D.off, .slice A2 D.bad.length a2] 25)) 28 #[.slice B1 L.targets.length b1, .slice B2 L.data.length b2]
  simp only [World.size_alloc] at z
  have zk := blk2 z
  have hB_2 := hB_1.alloc hB_1.size (.cells #[.slice B1 L.targets.length b1, .slice B2 L.data.length b2] 28)
  have x_3 := x.alloc (.cells #[.slice B1 L.targets.length b1, .slice B2 L.data.length b2] 28)
  have xk_3 := blk5 x_3
  have y := Blk.new ((w.alloc (.cells #[.string (bs D.data), .slice A1 D.cache.length a1, .int .i64 D.fuse, .bool D.off, .slice A2 D.bad.length a2] 25)).alloc (.cells #[.slice B1 L.targets.length b1, .slice B2 L.data.length b2] 28)) 49 #[.int .i64 K, .int .i64 A]
  simp only [World.size_alloc] at y
  have yk := blk2 y
  have hB_4 := hB_2.alloc hB_2.size (.cells #[.int .i64 K, .int .i64 A] 49)
  have x_5 := x_3.alloc (.cells #[.int .i64 K, .int .i64 A] 49)
  have xk_5 := blk5 x_5
  have z_6 := z.alloc (.cells #[.int .i64 K, .int .i64 A] 49)
  have zk_6 := blk2 z_6
  go_enter Try.func9, Try.ntmps9
  go_wp2_with fail
  go_at_call 23
  refine ((hG _ hB_4)).mono ?_
  rintro e w1 ⟨rfl, hb1⟩
  replace hB := bt hB_4 hb1
  replace x := x_5.below hb1 x_5.lt
  replace xk := blk5 x
  replace z := z_6.below hb1 z_6.lt
  replace zk := blk2 z
  replace y := y.below hb1 y.lt
  replace yk := blk2 y
  clear hB_1 hB_2 xk_3 x_3 hB_4 xk_5 x_5 zk_6 z_6
  go_wp2_with fail
  go_at_call 24
  refine ((awake11 _)).mono ?_
  rintro e w2 ⟨rfl, hb2⟩
  replace hB := bt hB hb2
  replace x := x.below hb2 x.lt
  replace xk := blk5 x
  replace z := z.below hb2 z.lt
  replace zk := blk2 z
  replace y := y.below hb2 y.lt
  replace yk := blk2 y
  go_wp2_with fail
  go_ret
  exact ⟨rfl, hB⟩

set_option maxRecDepth 100000 in
set_option maxHeartbeats 2000000 in
theorem walk_ok (D : Dk) (L : Pn) (p q p' q' : Pl) (t i o k K A : Int) (w : World) (h0 : IsDk0 w D p q) (hbl : D.bad.length ≤ 17592186044416) (hL : IsPn w L p' q') (hg : good D L = true) :
    Calls Try.prog 9 #[dval D p q, pval L p' q', .int .i64 t, .int .i64 i, .int .i64 o, .int .i64 k, eval2 K A] w fun e w' => e = .returned (.bool true) ∧ Below w.heap.size w w' := by
  obtain ⟨g1, g2, g3, g4⟩ := good_iff.1 hg
  have hD := h0.full (by omega) hbl (by omega)
  have hG := fun (W : World) (hb : Below w.heap.size w W) => good11 D L p q p' q' W (h0.below hb) (hL.below hb) hbl
  rw [hg] at hG
  have hdl := (Dk.fit_parts g3).2.2.1
  have h1 := fun (W : World) (hb : Below w.heap.size w W) => t_set D L p q p' q' W (hD.below hb) (hL.below hb) g3 g4 t i K A
  have h2 := fun (W : World) (hb : Below w.heap.size w W) => t_copy D L p q p' q' W (hD.below hb) (hL.below hb) g3 g4 t o
  have h3 := fun (W : World) (hb : Below w.heap.size w W) => t_blank L p' q' W (hL.below hb) g4 t
  have h4 := fun (W : World) (hb : Below w.heap.size w W) (a b : Int) => t_get D L p q p' q' W (hD.below hb) (hL.below hb) g3 g4 a b
  have h5 := fun (W : World) (hb : Below w.heap.size w W) (X : Pn) (p1 q1 : Pl) (hX : IsPn W X p1 q1) (hXf : X.Fit) (a b : Int) => t_get D X p q p1 q1 W (hD.below hb) hX g3 hXf a b
  have k1 := fun X (hX : Pn.tabSet D L t i K A = (X, 0)) => Pn.tabSet_ok g3 g4 hX
  have k2 := fun X (hX : Pn.tabCopy D L t o = (X, 0)) => Pn.tabCopy_ok (D := D) g4 hX
  have k3 := fun X (hX : Pn.tabBlank L t = (X, 0)) => Pn.tabBlank_ok (D := D) g4 hX
  generalize Pn.tabSet D L t i K A = S1 at h1 k1
  generalize Pn.tabCopy D L t o = S2 at h2 k2
  generalize Pn.tabBlank L t = S3 at h3 k3
  obtain ⟨X1, e1⟩ := S1
  obtain ⟨X2, e2⟩ := S2
  obtain ⟨X3, e3⟩ := S3
  have K1 := hid (k1 X1)
  have K2 := hid (k2 X2)
  have K3 := hid (k3 X3)
  have H4 := hid h4
  have H5 := hid h5
  clear h0 hL hg hD g1 g2 g3 g4 hdl k1 k2 k3 h4 h5
  obtain ⟨A1, a1⟩ := p
  obtain ⟨A2, a2⟩ := q
  obtain ⟨B1, b1⟩ := p'
  obtain ⟨B2, b2⟩ := q'
  have hB := Below.refl w.heap.size w
  have x := Blk.new w 25 #[.string (bs D.data), .slice A1 D.cache.length a1, .int .i64 D.fuse, .bool D.off, .slice A2 D.bad.length a2]
  have xk := blk5 x
  have hB_1 := hB.alloc hB.size (.cells #[.string (bs D.data), .slice A1 D.cache.length a1, .int .i64 D.fuse, .bool D.off, .slice A2 D.bad.length a2] 25)
  have z := Blk.new (w.alloc (.cells #[.string (bs D.data), .slice A1 D.cache.length a1, .int .i64 D.fuse, .bool D.off, .slice A2 D.bad.length a2] 25)) 28 #[.slice B1 L.targets.length b1, .slice B2 L.data.length b2]
  simp only [World.size_alloc] at z
  have zk := blk2 z
  have hB_2 := hB_1.alloc hB_1.size (.cells #[.slice B1 L.targets.length b1, .slice B2 L.data.length b2] 28)
  have x_3 := x.alloc (.cells #[.slice B1 L.targets.length b1, .slice B2 L.data.length b2] 28)
  have xk_3 := blk5 x_3
  have y := Blk.new ((w.alloc (.cells #[.string (bs D.data), .slice A1 D.cache.length a1, .int .i64 D.fuse, .bool D.off, .slice A2 D.bad.length a2] 25)).alloc (.cells #[.slice B1 L.targets.length b1, .slice B2 L.data.length b2] 28)) 49 #[.int .i64 K, .int .i64 A]
  simp only [World.size_alloc] at y
  have yk := blk2 y
  have hB_4 := hB_2.alloc hB_2.size (.cells #[.int .i64 K, .int .i64 A] 49)
  have x_5 := x_3.alloc (.cells #[.int .i64 K, .int .i64 A] 49)
  have xk_5 := blk5 x_5
  have z_6 := z.alloc (.cells #[.int .i64 K, .int .i64 A] 49)
  have zk_6 := blk2 z_6
  go_enter Try.func9, Try.ntmps9
  go_wp2_with fail
  go_at_call 23
  refine ((hG _ hB_4)).mono ?_
  rintro e w1 ⟨rfl, hb1⟩
  replace hB := bt hB_4 hb1
  replace x := x_5.below hb1 x_5.lt
  replace xk := blk5 x
  replace z := z_6.below hb1 z_6.lt
  replace zk := blk2 z
  replace y := y.below hb1 y.lt
  replace yk := blk2 y
  clear hB_1 hB_2 xk_3 x_3 hB_4 xk_5 x_5 zk_6 z_6
  go_wp2_with fail
  go_at_call 32
  refine ((h1 _ hB)).mono ?_
  rintro e w2 ⟨⟨p1, q1, rfl, i1, o1⟩, hb2⟩
  replace hB := bt hB hb2
  replace x := x.below hb2 x.lt
  replace xk := blk5 x
  replace z := z.below hb2 z.lt
  replace zk := blk2 z
  replace y := y.below hb2 y.lt
  replace yk := blk2 y
  have s := Blk.new w2 28 #[.slice p1.a X1.targets.length p1.c, .slice q1.a X1.data.length q1.c]
  have sk := blk2 s
  have hB_7 := hB.alloc hB.size (.cells #[.slice p1.a X1.targets.length p1.c, .slice q1.a X1.data.length q1.c] 28)
  have x_8 := x.alloc (.cells #[.slice p1.a X1.targets.length p1.c, .slice q1.a X1.data.length q1.c] 28)
  have xk_8 := blk5 x_8
  have z_9 := z.alloc (.cells #[.slice p1.a X1.targets.length p1.c, .slice q1.a X1.data.length q1.c] 28)
  have zk_9 := blk2 z_9
  have y_10 := y.alloc (.cells #[.slice p1.a X1.targets.length p1.c, .slice q1.a X1.data.length q1.c] 28)
  have yk_10 := blk2 y_10
  have i1_11 := i1.below ((Below.refl _ _).alloc (Nat.le_refl _) (.cells #[.slice p1.a X1.targets.length p1.c, .slice q1.a X1.data.length q1.c] 28))
  go_upto_if 49 with fail
  go_cut [] (fun wx => Blk wx w.heap.size 25 #[.string (bs D.data), .slice A1 D.cache.length a1, .int .i64 D.fuse, .bool D.off, .slice A2 D.bad.length a2] ∧ Blk wx (w.heap.size + 1) 28 #[.slice B1 L.targets.length b1, .slice B2 L.data.length b2] ∧ Blk wx (w.heap.size + 1 + 1) 49 #[.int .i64 K, .int .i64 A] ∧ Below w.heap.size w wx)
  case first =>
    by_cases he : e1 = 0
    · subst he
      obtain ⟨f1, f2, f3⟩ := K1.out rfl
      have q2 := fun W hb hX => H5.out W hb X1 p1 q1 hX f1 t i
      rw [f2] at q2
      by_cases c1 : o = t
      · subst c1
        by_cases c2 : k = i
        · subst c2
          have Q2 := hid q2
          have q4 := fun W hb => H4.out W hb o k
          generalize Pn.tabGet D L o k = E at q4
          obtain ⟨⟨E1, E2⟩, E3⟩ := E
          simp only at q4
          clear f1 f2 f3
          go_wp2_with fail
          go_at_call 25
          refine ((Q2.out _ hB_7 i1_11)).mono ?_
          rintro e w3 ⟨rfl, hb3⟩
          replace hB := bt hB_7 hb3
          replace x := x_8.below hb3 x_8.lt
          replace xk := blk5 x
          replace z := z_9.below hb3 z_9.lt
          replace zk := blk2 z
          replace y := y_10.below hb3 y_10.lt
          replace yk := blk2 y
          replace i1 := i1_11.below hb3
          replace s := s.below hb3 s.lt
          replace sk := blk2 s
          clear hB_7 xk_8 x_8 zk_9 z_9 yk_10 y_10 i1_11
          have u := Blk.new w3 49 #[.int .i64 K, .int .i64 A]
          have uk := blk2 u
          have hB_12 := hB.alloc hB.size (.cells #[.int .i64 K, .int .i64 A] 49)
          have x_13 := x.alloc (.cells #[.int .i64 K, .int .i64 A] 49)
          have xk_13 := blk5 x_13
          have z_14 := z.alloc (.cells #[.int .i64 K, .int .i64 A] 49)
          have zk_14 := blk2 z_14
          have y_15 := y.alloc (.cells #[.int .i64 K, .int .i64 A] 49)
          have yk_15 := blk2 y_15
          have i1_16 := i1.below ((Below.refl _ _).alloc (Nat.le_refl _) (.cells #[.int .i64 K, .int .i64 A] 49))
          have s_17 := s.alloc (.cells #[.int .i64 K, .int .i64 A] 49)
          have sk_17 := blk2 s_17
          go_wp2_with fail
          go_at_call 25
          refine ((Q2.out _ hB_12 i1_16)).mono ?_
          rintro e w4 ⟨rfl, hb4⟩
          replace hB := bt hB_12 hb4
          replace x := x_13.below hb4 x_13.lt
          replace xk := blk5 x
          replace z := z_14.below hb4 z_14.lt
          replace zk := blk2 z
          replace y := y_15.below hb4 y_15.lt
          replace yk := blk2 y
          replace i1 := i1_16.below hb4
          replace s := s_17.below hb4 s_17.lt
          replace sk := blk2 s
          replace u := u.below hb4 u.lt
          replace uk := blk2 u
          clear hB_12 xk_13 x_13 zk_14 z_14 yk_15 y_15 i1_16 sk_17 s_17
          have v := Blk.new w4 49 #[.int .i64 K, .int .i64 A]
          have vk := blk2 v
          have hB_18 := hB.alloc hB.size (.cells #[.int .i64 K, .int .i64 A] 49)
          have x_19 := x.alloc (.cells #[.int .i64 K, .int .i64 A] 49)
          have xk_19 := blk5 x_19
          have z_20 := z.alloc (.cells #[.int .i64 K, .int .i64 A] 49)
          have zk_20 := blk2 z_20
          have y_21 := y.alloc (.cells #[.int .i64 K, .int .i64 A] 49)
          have yk_21 := blk2 y_21
          have i1_22 := i1.below ((Below.refl _ _).alloc (Nat.le_refl _) (.cells #[.int .i64 K, .int .i64 A] 49))
          have s_23 := s.alloc (.cells #[.int .i64 K, .int .i64 A] 49)
          have sk_23 := blk2 s_23
          have u_24 := u.alloc (.cells #[.int .i64 K, .int .i64 A] 49)
          have uk_24 := blk2 u_24
          go_wp2_with fail
          go_at_call 25
          refine ((q4 _ hB_18)).mono ?_
          rintro e w5 ⟨rfl, hb5⟩
          replace hB := bt hB_18 hb5
          replace x := x_19.below hb5 x_19.lt
          replace xk := blk5 x
          replace z := z_20.below hb5 z_20.lt
          replace zk := blk2 z
          replace y := y_21.below hb5 y_21.lt
          replace yk := blk2 y
          replace i1 := i1_22.below hb5
          replace s := s_23.below hb5 s_23.lt
          replace sk := blk2 s
          replace u := u_24.below hb5 u_24.lt
          replace uk := blk2 u
          replace v := v.below hb5 v.lt
          replace vk := blk2 v
          clear hB_18 xk_19 x_19 zk_20 z_20 yk_21 y_21 i1_22 sk_23 s_23 uk_24 u_24
          have v2 := Blk.new w5 49 #[.int .i64 E1, .int .i64 E2]
          have v2k := blk2 v2
          have hB_25 := hB.alloc hB.size (.cells #[.int .i64 E1, .int .i64 E2] 49)
          have x_26 := x.alloc (.cells #[.int .i64 E1, .int .i64 E2] 49)
          have xk_26 := blk5 x_26
          have z_27 := z.alloc (.cells #[.int .i64 E1, .int .i64 E2] 49)
          have zk_27 := blk2 z_27
          have y_28 := y.alloc (.cells #[.int .i64 E1, .int .i64 E2] 49)
          have yk_28 := blk2 y_28
          have i1_29 := i1.below ((Below.refl _ _).alloc (Nat.le_refl _) (.cells #[.int .i64 E1, .int .i64 E2] 49))
          have s_30 := s.alloc (.cells #[.int .i64 E1, .int .i64 E2] 49)
          have sk_30 := blk2 s_30
          have u_31 := u.alloc (.cells #[.int .i64 E1, .int .i64 E2] 49)
          have uk_31 := blk2 u_31
          have v_32 := v.alloc (.cells #[.int .i64 E1, .int .i64 E2] 49)
          have vk_32 := blk2 v_32
          go_wp2_with fail
          go_meet
          exact ⟨x_26, z_27, y_28, hB_25⟩
        · have n2 : (k != i) = true := by simpa using c2
          have q3 := fun W hb hX => H5.out W hb X1 p1 q1 hX f1 o k
          rw [f3 o k (.inr c2)] at q3
          have q4 := fun W hb => H4.out W hb o k
          generalize Pn.tabGet D L o k = E at q3 q4
          obtain ⟨⟨E1, E2⟩, E3⟩ := E
          simp only at q3 q4
          clear f1 f2 f3 c2
          go_wp2_with fail
          go_at_call 25
          refine ((q2 _ hB_7 i1_11)).mono ?_
          rintro e w3 ⟨rfl, hb3⟩
          replace hB := bt hB_7 hb3
          replace x := x_8.below hb3 x_8.lt
          replace xk := blk5 x
          replace z := z_9.below hb3 z_9.lt
          replace zk := blk2 z
          replace y := y_10.below hb3 y_10.lt
          replace yk := blk2 y
          replace i1 := i1_11.below hb3
          replace s := s.below hb3 s.lt
          replace sk := blk2 s
          clear hB_7 xk_8 x_8 zk_9 z_9 yk_10 y_10 i1_11
          have u := Blk.new w3 49 #[.int .i64 K, .int .i64 A]
          have uk := blk2 u
          have hB_12 := hB.alloc hB.size (.cells #[.int .i64 K, .int .i64 A] 49)
          have x_13 := x.alloc (.cells #[.int .i64 K, .int .i64 A] 49)
          have xk_13 := blk5 x_13
          have z_14 := z.alloc (.cells #[.int .i64 K, .int .i64 A] 49)
          have zk_14 := blk2 z_14
          have y_15 := y.alloc (.cells #[.int .i64 K, .int .i64 A] 49)
          have yk_15 := blk2 y_15
          have i1_16 := i1.below ((Below.refl _ _).alloc (Nat.le_refl _) (.cells #[.int .i64 K, .int .i64 A] 49))
          have s_17 := s.alloc (.cells #[.int .i64 K, .int .i64 A] 49)
          have sk_17 := blk2 s_17
          go_wp2_with fail
          go_at_call 25
          refine ((q3 _ hB_12 i1_16)).mono ?_
          rintro e w4 ⟨rfl, hb4⟩
          replace hB := bt hB_12 hb4
          replace x := x_13.below hb4 x_13.lt
          replace xk := blk5 x
          replace z := z_14.below hb4 z_14.lt
          replace zk := blk2 z
          replace y := y_15.below hb4 y_15.lt
          replace yk := blk2 y
          replace i1 := i1_16.below hb4
          replace s := s_17.below hb4 s_17.lt
          replace sk := blk2 s
          replace u := u.below hb4 u.lt
          replace uk := blk2 u
          clear hB_12 xk_13 x_13 zk_14 z_14 yk_15 y_15 i1_16 sk_17 s_17
          have v := Blk.new w4 49 #[.int .i64 E1, .int .i64 E2]
          have vk := blk2 v
          have hB_18 := hB.alloc hB.size (.cells #[.int .i64 E1, .int .i64 E2] 49)
          have x_19 := x.alloc (.cells #[.int .i64 E1, .int .i64 E2] 49)
          have xk_19 := blk5 x_19
          have z_20 := z.alloc (.cells #[.int .i64 E1, .int .i64 E2] 49)
          have zk_20 := blk2 z_20
          have y_21 := y.alloc (.cells #[.int .i64 E1, .int .i64 E2] 49)
          have yk_21 := blk2 y_21
          have i1_22 := i1.below ((Below.refl _ _).alloc (Nat.le_refl _) (.cells #[.int .i64 E1, .int .i64 E2] 49))
          have s_23 := s.alloc (.cells #[.int .i64 E1, .int .i64 E2] 49)
          have sk_23 := blk2 s_23
          have u_24 := u.alloc (.cells #[.int .i64 E1, .int .i64 E2] 49)
          have uk_24 := blk2 u_24
          go_wp2_with fail
          go_at_call 25
          refine ((q4 _ hB_18)).mono ?_
          rintro e w5 ⟨rfl, hb5⟩
          replace hB := bt hB_18 hb5
          replace x := x_19.below hb5 x_19.lt
          replace xk := blk5 x
          replace z := z_20.below hb5 z_20.lt
          replace zk := blk2 z
          replace y := y_21.below hb5 y_21.lt
          replace yk := blk2 y
          replace i1 := i1_22.below hb5
          replace s := s_23.below hb5 s_23.lt
          replace sk := blk2 s
          replace u := u_24.below hb5 u_24.lt
          replace uk := blk2 u
          replace v := v.below hb5 v.lt
          replace vk := blk2 v
          clear hB_18 xk_19 x_19 zk_20 z_20 yk_21 y_21 i1_22 sk_23 s_23 uk_24 u_24
          have v2 := Blk.new w5 49 #[.int .i64 E1, .int .i64 E2]
          have v2k := blk2 v2
          have hB_25 := hB.alloc hB.size (.cells #[.int .i64 E1, .int .i64 E2] 49)
          have x_26 := x.alloc (.cells #[.int .i64 E1, .int .i64 E2] 49)
          have xk_26 := blk5 x_26
          have z_27 := z.alloc (.cells #[.int .i64 E1, .int .i64 E2] 49)
          have zk_27 := blk2 z_27
          have y_28 := y.alloc (.cells #[.int .i64 E1, .int .i64 E2] 49)
          have yk_28 := blk2 y_28
          have i1_29 := i1.below ((Below.refl _ _).alloc (Nat.le_refl _) (.cells #[.int .i64 E1, .int .i64 E2] 49))
          have s_30 := s.alloc (.cells #[.int .i64 E1, .int .i64 E2] 49)
          have sk_30 := blk2 s_30
          have u_31 := u.alloc (.cells #[.int .i64 E1, .int .i64 E2] 49)
          have uk_31 := blk2 u_31
          have v_32 := v.alloc (.cells #[.int .i64 E1, .int .i64 E2] 49)
          have vk_32 := blk2 v_32
          go_wp2_with fail
          go_meet
          exact ⟨x_26, z_27, y_28, hB_25⟩
      · have n1 : (o != t) = true := by simpa using c1
        have q3 := fun W hb hX => H5.out W hb X1 p1 q1 hX f1 o k
        rw [f3 o k (.inl c1)] at q3
        have q4 := fun W hb => H4.out W hb o k
        generalize Pn.tabGet D L o k = E at q3 q4
        obtain ⟨⟨E1, E2⟩, E3⟩ := E
        simp only at q3 q4
        clear f1 f2 f3 c1
        go_wp2_with fail
        go_at_call 25
        refine ((q2 _ hB_7 i1_11)).mono ?_
        rintro e w3 ⟨rfl, hb3⟩
        replace hB := bt hB_7 hb3
        replace x := x_8.below hb3 x_8.lt
        replace xk := blk5 x
        replace z := z_9.below hb3 z_9.lt
        replace zk := blk2 z
        replace y := y_10.below hb3 y_10.lt
        replace yk := blk2 y
        replace i1 := i1_11.below hb3
        replace s := s.below hb3 s.lt
        replace sk := blk2 s
        clear hB_7 xk_8 x_8 zk_9 z_9 yk_10 y_10 i1_11
        have u := Blk.new w3 49 #[.int .i64 K, .int .i64 A]
        have uk := blk2 u
        have hB_12 := hB.alloc hB.size (.cells #[.int .i64 K, .int .i64 A] 49)
        have x_13 := x.alloc (.cells #[.int .i64 K, .int .i64 A] 49)
        have xk_13 := blk5 x_13
        have z_14 := z.alloc (.cells #[.int .i64 K, .int .i64 A] 49)
        have zk_14 := blk2 z_14
        have y_15 := y.alloc (.cells #[.int .i64 K, .int .i64 A] 49)
        have yk_15 := blk2 y_15
        have i1_16 := i1.below ((Below.refl _ _).alloc (Nat.le_refl _) (.cells #[.int .i64 K, .int .i64 A] 49))
        have s_17 := s.alloc (.cells #[.int .i64 K, .int .i64 A] 49)
        have sk_17 := blk2 s_17
        go_wp2_with fail
        go_at_call 25
        refine ((q3 _ hB_12 i1_16)).mono ?_
        rintro e w4 ⟨rfl, hb4⟩
        replace hB := bt hB_12 hb4
        replace x := x_13.below hb4 x_13.lt
        replace xk := blk5 x
        replace z := z_14.below hb4 z_14.lt
        replace zk := blk2 z
        replace y := y_15.below hb4 y_15.lt
        replace yk := blk2 y
        replace i1 := i1_16.below hb4
        replace s := s_17.below hb4 s_17.lt
        replace sk := blk2 s
        replace u := u.below hb4 u.lt
        replace uk := blk2 u
        clear hB_12 xk_13 x_13 zk_14 z_14 yk_15 y_15 i1_16 sk_17 s_17
        have v := Blk.new w4 49 #[.int .i64 E1, .int .i64 E2]
        have vk := blk2 v
        have hB_18 := hB.alloc hB.size (.cells #[.int .i64 E1, .int .i64 E2] 49)
        have x_19 := x.alloc (.cells #[.int .i64 E1, .int .i64 E2] 49)
        have xk_19 := blk5 x_19
        have z_20 := z.alloc (.cells #[.int .i64 E1, .int .i64 E2] 49)
        have zk_20 := blk2 z_20
        have y_21 := y.alloc (.cells #[.int .i64 E1, .int .i64 E2] 49)
        have yk_21 := blk2 y_21
        have i1_22 := i1.below ((Below.refl _ _).alloc (Nat.le_refl _) (.cells #[.int .i64 E1, .int .i64 E2] 49))
        have s_23 := s.alloc (.cells #[.int .i64 E1, .int .i64 E2] 49)
        have sk_23 := blk2 s_23
        have u_24 := u.alloc (.cells #[.int .i64 E1, .int .i64 E2] 49)
        have uk_24 := blk2 u_24
        go_wp2_with fail
        go_at_call 25
        refine ((q4 _ hB_18)).mono ?_
        rintro e w5 ⟨rfl, hb5⟩
        replace hB := bt hB_18 hb5
        replace x := x_19.below hb5 x_19.lt
        replace xk := blk5 x
        replace z := z_20.below hb5 z_20.lt
        replace zk := blk2 z
        replace y := y_21.below hb5 y_21.lt
        replace yk := blk2 y
        replace i1 := i1_22.below hb5
        replace s := s_23.below hb5 s_23.lt
        replace sk := blk2 s
        replace u := u_24.below hb5 u_24.lt
        replace uk := blk2 u
        replace v := v.below hb5 v.lt
        replace vk := blk2 v
        clear hB_18 xk_19 x_19 zk_20 z_20 yk_21 y_21 i1_22 sk_23 s_23 uk_24 u_24
        have v2 := Blk.new w5 49 #[.int .i64 E1, .int .i64 E2]
        have v2k := blk2 v2
        have hB_25 := hB.alloc hB.size (.cells #[.int .i64 E1, .int .i64 E2] 49)
        have x_26 := x.alloc (.cells #[.int .i64 E1, .int .i64 E2] 49)
        have xk_26 := blk5 x_26
        have z_27 := z.alloc (.cells #[.int .i64 E1, .int .i64 E2] 49)
        have zk_27 := blk2 z_27
        have y_28 := y.alloc (.cells #[.int .i64 E1, .int .i64 E2] 49)
        have yk_28 := blk2 y_28
        have i1_29 := i1.below ((Below.refl _ _).alloc (Nat.le_refl _) (.cells #[.int .i64 E1, .int .i64 E2] 49))
        have s_30 := s.alloc (.cells #[.int .i64 E1, .int .i64 E2] 49)
        have sk_30 := blk2 s_30
        have u_31 := u.alloc (.cells #[.int .i64 E1, .int .i64 E2] 49)
        have uk_31 := blk2 u_31
        have v_32 := v.alloc (.cells #[.int .i64 E1, .int .i64 E2] 49)
        have vk_32 := blk2 v_32
        go_wp2_with fail
        go_meet
        exact ⟨x_26, z_27, y_28, hB_25⟩
    · have n1 : (e1 == 0) = false := by simpa using he
      clear he
      go_wp2_with fail
      go_meet
      exact ⟨x_8, z_9, y_10, hB_7⟩
  case rest =>
  clear h1 K1
  obtain ⟨x, z, y, hB⟩ := hcut
  have xk := blk5 x
  have zk := blk2 z
  have yk := blk2 y
  go_wp2_with fail
  go_at_call 36
  refine ((h2 _ hB)).mono ?_
  rintro e v2 ⟨⟨p2, q2, rfl, i2, o2⟩, hb2⟩
  replace hB := bt hB hb2
  replace x := x.below hb2 x.lt
  replace xk := blk5 x
  replace z := z.below hb2 z.lt
  replace zk := blk2 z
  replace y := y.below hb2 y.lt
  replace yk := blk2 y
  have s := Blk.new v2 28 #[.slice p2.a X2.targets.length p2.c, .slice q2.a X2.data.length q2.c]
  have sk := blk2 s
  have hB_1 := hB.alloc hB.size (.cells #[.slice p2.a X2.targets.length p2.c, .slice q2.a X2.data.length q2.c] 28)
  have x_2 := x.alloc (.cells #[.slice p2.a X2.targets.length p2.c, .slice q2.a X2.data.length q2.c] 28)
  have xk_2 := blk5 x_2
  have z_3 := z.alloc (.cells #[.slice p2.a X2.targets.length p2.c, .slice q2.a X2.data.length q2.c] 28)
  have zk_3 := blk2 z_3
  have y_4 := y.alloc (.cells #[.slice p2.a X2.targets.length p2.c, .slice q2.a X2.data.length q2.c] 28)
  have yk_4 := blk2 y_4
  have i2_5 := i2.below ((Below.refl _ _).alloc (Nat.le_refl _) (.cells #[.slice p2.a X2.targets.length p2.c, .slice q2.a X2.data.length q2.c] 28))
  go_upto_if 110 with fail
  go_cut [] (fun wx => Blk wx w.heap.size 25 #[.string (bs D.data), .slice A1 D.cache.length a1, .int .i64 D.fuse, .bool D.off, .slice A2 D.bad.length a2] ∧ Blk wx (w.heap.size + 1) 28 #[.slice B1 L.targets.length b1, .slice B2 L.data.length b2] ∧ Blk wx (w.heap.size + 1 + 1) 49 #[.int .i64 K, .int .i64 A] ∧ Below w.heap.size w wx)
  case first =>
    by_cases he : e2 = 0
    · subst he
      obtain ⟨f1, f2, _⟩ := K2.out rfl
      have q2' := fun W hb hX => H5.out W hb X2 p2 q2 hX f1 o k
      rw [f2] at q2'
      have q4 := fun W hb => H4.out W hb t k
      generalize Pn.tabGet D L t k = E at q2' q4
      obtain ⟨⟨E1, E2⟩, E3⟩ := E
      simp only at q2' q4
      clear f1 f2
      go_wp2_with fail
      go_at_call 25
      refine ((q2' _ hB_1 i2_5)).mono ?_
      rintro e v3 ⟨rfl, hb3⟩
      replace hB := bt hB_1 hb3
      replace x := x_2.below hb3 x_2.lt
      replace xk := blk5 x
      replace z := z_3.below hb3 z_3.lt
      replace zk := blk2 z
      replace y := y_4.below hb3 y_4.lt
      replace yk := blk2 y
      replace i2 := i2_5.below hb3
      replace s := s.below hb3 s.lt
      replace sk := blk2 s
      clear hB_1 xk_2 x_2 zk_3 z_3 yk_4 y_4 i2_5
      have u := Blk.new v3 49 #[.int .i64 E1, .int .i64 E2]
      have uk := blk2 u
      have hB_6 := hB.alloc hB.size (.cells #[.int .i64 E1, .int .i64 E2] 49)
      have x_7 := x.alloc (.cells #[.int .i64 E1, .int .i64 E2] 49)
      have xk_7 := blk5 x_7
      have z_8 := z.alloc (.cells #[.int .i64 E1, .int .i64 E2] 49)
      have zk_8 := blk2 z_8
      have y_9 := y.alloc (.cells #[.int .i64 E1, .int .i64 E2] 49)
      have yk_9 := blk2 y_9
      have i2_10 := i2.below ((Below.refl _ _).alloc (Nat.le_refl _) (.cells #[.int .i64 E1, .int .i64 E2] 49))
      have s_11 := s.alloc (.cells #[.int .i64 E1, .int .i64 E2] 49)
      have sk_11 := blk2 s_11
      go_wp2_with fail
      go_at_call 25
      refine ((q4 _ hB_6)).mono ?_
      rintro e v4 ⟨rfl, hb4⟩
      replace hB := bt hB_6 hb4
      replace x := x_7.below hb4 x_7.lt
      replace xk := blk5 x
      replace z := z_8.below hb4 z_8.lt
      replace zk := blk2 z
      replace y := y_9.below hb4 y_9.lt
      replace yk := blk2 y
      replace i2 := i2_10.below hb4
      replace s := s_11.below hb4 s_11.lt
      replace sk := blk2 s
      replace u := u.below hb4 u.lt
      replace uk := blk2 u
      clear hB_6 xk_7 x_7 zk_8 z_8 yk_9 y_9 i2_10 sk_11 s_11
      have v := Blk.new v4 49 #[.int .i64 E1, .int .i64 E2]
      have vk := blk2 v
      have hB_12 := hB.alloc hB.size (.cells #[.int .i64 E1, .int .i64 E2] 49)
      have x_13 := x.alloc (.cells #[.int .i64 E1, .int .i64 E2] 49)
      have xk_13 := blk5 x_13
      have z_14 := z.alloc (.cells #[.int .i64 E1, .int .i64 E2] 49)
      have zk_14 := blk2 z_14
      have y_15 := y.alloc (.cells #[.int .i64 E1, .int .i64 E2] 49)
      have yk_15 := blk2 y_15
      have i2_16 := i2.below ((Below.refl _ _).alloc (Nat.le_refl _) (.cells #[.int .i64 E1, .int .i64 E2] 49))
      have s_17 := s.alloc (.cells #[.int .i64 E1, .int .i64 E2] 49)
      have sk_17 := blk2 s_17
      have u_18 := u.alloc (.cells #[.int .i64 E1, .int .i64 E2] 49)
      have uk_18 := blk2 u_18
      go_wp2_with fail
      go_meet
      exact ⟨x_13, z_14, y_15, hB_12⟩
    · have n1 : (e2 == 0) = false := by simpa using he
      clear he
      go_wp2_with fail
      go_meet
      exact ⟨x_2, z_3, y_4, hB_1⟩
  case rest =>
  clear h2 K2
  obtain ⟨x, z, y, hB⟩ := hcut
  have xk := blk5 x
  have zk := blk2 z
  have yk := blk2 y
  go_wp2_with fail
  go_at_call 34
  refine ((h3 _ hB)).mono ?_
  rintro e v2 ⟨⟨p3, q3, rfl, i3, o3⟩, hb2⟩
  replace hB := bt hB hb2
  replace x := x.below hb2 x.lt
  replace xk := blk5 x
  replace z := z.below hb2 z.lt
  replace zk := blk2 z
  replace y := y.below hb2 y.lt
  replace yk := blk2 y
  have s := Blk.new v2 28 #[.slice p3.a X3.targets.length p3.c, .slice q3.a X3.data.length q3.c]
  have sk := blk2 s
  have hB_1 := hB.alloc hB.size (.cells #[.slice p3.a X3.targets.length p3.c, .slice q3.a X3.data.length q3.c] 28)
  have x_2 := x.alloc (.cells #[.slice p3.a X3.targets.length p3.c, .slice q3.a X3.data.length q3.c] 28)
  have xk_2 := blk5 x_2
  have z_3 := z.alloc (.cells #[.slice p3.a X3.targets.length p3.c, .slice q3.a X3.data.length q3.c] 28)
  have zk_3 := blk2 z_3
  have y_4 := y.alloc (.cells #[.slice p3.a X3.targets.length p3.c, .slice q3.a X3.data.length q3.c] 28)
  have yk_4 := blk2 y_4
  have i3_5 := i3.below ((Below.refl _ _).alloc (Nat.le_refl _) (.cells #[.slice p3.a X3.targets.length p3.c, .slice q3.a X3.data.length q3.c] 28))
  by_cases he : e3 = 0
  · subst he
    obtain ⟨f1, _, f2, _⟩ := K3.out rfl
    go_wp2_with fail
    go_loopw [143] (fun v W => ∃ n : Nat, n ≤ 16 ∧ v = .int .i64 n ∧ Blk W w.heap.size 25 #[.string (bs D.data), .slice A1 D.cache.length a1, .int .i64 D.fuse, .bool D.off, .slice A2 D.bad.length a2] ∧ Blk W v2.heap.size 28 #[.slice p3.a X3.targets.length p3.c, .slice q3.a X3.data.length q3.c] ∧ IsPn W X3 p3 q3 ∧ Below w.heap.size w W) (fun v _ => 16 - (intOf v).toNat)
    case atStart => exact ⟨0, by omega, rfl, x_2, s, i3_5, hB_1⟩
    case round =>
      obtain ⟨n, hn, rfl, x, s, i3, hB⟩ := hrel
      by_cases hlt : n < 16
      · have q5 := fun W hb hX => H5.out W hb X3 p3 q3 hX f1 t n
        rw [f2 n (by omega) (by omega)] at q5
        clear f1 f2
        have xk := blk5 x
        have sk := blk2 s
        go_wp2_with fail
        go_at_call 25
        refine ((q5 _ hB i3)).mono ?_
        rintro e v3 ⟨rfl, hb3⟩
        replace hB := bt hB hb3
        replace i3 := i3.below hb3
        replace x := x.below hb3 x.lt
        replace xk := blk5 x
        replace s := s.below hb3 s.lt
        replace sk := blk2 s
        have u := Blk.new v3 49 #[.int .i64 0, .int .i64 0]
        have uk := blk2 u
        have hB_1 := hB.alloc hB.size (.cells #[.int .i64 0, .int .i64 0] 49)
        have i3_2 := i3.below ((Below.refl _ _).alloc (Nat.le_refl _) (.cells #[.int .i64 0, .int .i64 0] 49))
        have x_3 := x.alloc (.cells #[.int .i64 0, .int .i64 0] 49)
        have xk_3 := blk5 x_3
        have s_4 := s.alloc (.cells #[.int .i64 0, .int .i64 0] 49)
        have sk_4 := blk2 s_4
        go_wp2_with fail
        go_roundw
        case rel => exact ⟨n + 1, by omega, by go_num, x_3, s_4, i3_2, hB_1⟩
        case measure => simp [intOf]; omega
      · obtain rfl : n = 16 := by omega
        clear f1 f2
        go_wp2_with fail
        go_at_call 24
        refine ((awake11 _)).mono ?_
        rintro e w9 ⟨rfl, hb9⟩
        replace hB := bt hB hb9
        go_wp2_with fail
        go_ret
        exact ⟨rfl, hB⟩
  · have n1 : (e3 == 0) = false := by simpa using he
    clear he
    go_wp2_with fail
    go_at_call 24
    refine ((awake11 _)).mono ?_
    rintro e w9 ⟨rfl, hb9⟩
    replace hB := bt hB_1 hb9
    replace x := x_2.below hb9 x_2.lt
    replace xk := blk5 x
    replace z := z_3.below hb9 z_3.lt
    replace zk := blk2 z
    replace y := y_4.below hb9 y_4.lt
    replace yk := blk2 y
    replace i3 := i3_5.below hb9
    replace s := s.below hb9 s.lt
    replace sk := blk2 s
    clear hB_1 xk_2 x_2 zk_3 z_3 yk_4 y_4 i3_5
    go_wp2_with fail
    go_ret
    exact ⟨rfl, hB⟩
theorem walk (w : World) (D : Dk) (p q : Pl) (hD : IsDk0 w D p q ∧ D.cache.length * Try.prog.bytesOf 118 ≤ reachBytes ∧ D.bad.length * Try.prog.bytesOf 3 ≤ reachBytes) (L : Pn) (p' q' : Pl) (hL : IsPn w L p' q') (t : Int) (wt : (Lit.int .i64 t).wf = true) (i : Int) (wi : (Lit.int .i64 i).wf = true) (o : Int) (wo : (Lit.int .i64 o).wf = true) (k : Int) (wk : (Lit.int .i64 k).wf = true) (K A : Int) (wK : okInt K ∧ okInt A) :
    Calls Try.prog 9 #[dval D p q, pval L p' q', .int .i64 t, .int .i64 i, .int .i64 o, .int .i64 k, eval2 K A] w fun e w' => e = .returned (.bool true) ∧ Below w.heap.size w w' := by
  obtain ⟨hD, c1, b1⟩ := hD
  rw [show Try.prog.bytesOf 3 = 8 by kernel_rfl] at b1
  unfold reachBytes at b1
  cases hg : good D L with
  | false => exact walk_no D L p q p' q' t i o k K A w hD (by omega) hL hg
  | true => exact walk_ok D L p q p' q' t i o k K A w hD (by omega) hL hg
/-! ### The row -/
theorem own : ownKnob Try.prog.godebug = none := by kernel_rfl
set_option maxRecDepth 100000 in
theorem lifted (os : Os) (started : os.Started) (H : Type) (enc : TypeId × Value → H) :
    ReturnsInHanded {} Try.checked os 9 .any (Rows.tableBackSpec.pre6 enc Try.prog Try.f9 Rows.tableBackRow.domain false) (Rows.tableBackSpec.post enc Try.prog Try.f9 false true false false) := by
  refine returnsInHanded_of_change_sized (C := Try.checked) own started (by kernel_rfl) Try.func9
    (ChangeSpec.witness6 (enc := enc) (C := Try.checked) false ⟨#[], #[.agg #[.string ByteArray.empty, .slice none 0 0, .int .i64 0, .bool false, .slice none 0 0], .agg #[.slice none 0 0, .slice none 0 0], .int .i64 0, .int .i64 0, .int .i64 0, .int .i64 0, .agg #[.int .i64 0, .int .i64 0]], []⟩ 8 (by kernel_rfl) (by kernel_rfl) (by kernel_rfl) (by kernel_rfl)) ?_
  intro W base args ds gs before hval0 hW hcnd hsz0 _
  have hval : ∀ (j : Nat) t v, Try.f9.params[j]? = some t → args[j]? = some v → Value.okWide Try.prog W .any base t v := hval0
  have hW' := hW
  obtain ⟨p, q, hA0, hV, rfl, hfz, hnd⟩ := hW
  have hA : DataW.TrodAll enc Try.prog W 0 (fun _ => true) true Try.f9.params.toList args.toList ds p := hA0
  have hAk := hA
  have hsz : (DataW.weightsEach Try.prog (Try.f9.params.toList ++ Rows.tableBackSpec.plain.varTypes Try.prog) (ds ++ gs)).all (· ≤ reachBytes) = true := hsz0
  rw [Try.params9] at hA hval hsz
  obtain ⟨v0, vs0, d0, ds0, p0, q0, hargs, rfl, rfl, h0, r0⟩ := trodAll_cons hA
  obtain ⟨v1, vs1, d1, ds1, p1, q1, rfl, rfl, rfl, h1, r1⟩ := trodAll_cons r0
  obtain ⟨v2, vs2, d2, ds2, p2, q2, rfl, rfl, rfl, h2, r2⟩ := trodAll_cons r1
  obtain ⟨v3, vs3, d3, ds3, p3, q3, rfl, rfl, rfl, h3, r3⟩ := trodAll_cons r2
  obtain ⟨v4, vs4, d4, ds4, p4, q4, rfl, rfl, rfl, h4, r4⟩ := trodAll_cons r3
  obtain ⟨v5, vs5, d5, ds5, p5, q5, rfl, rfl, rfl, h5, r5⟩ := trodAll_cons r4
  obtain ⟨v6, vs6, d6, ds6, p6, q6, rfl, rfl, rfl, h6, r6⟩ := trodAll_cons r5
  obtain ⟨rfl, rfl, rfl⟩ := trodAll_nil r6
  obtain rfl : args = #[v0, v1, v2, v3, v4, v5, v6] := by cases args; simp_all
  obtain ⟨rfl, rfl⟩ := trodVars_none hV
  obtain ⟨D0, P0, Q0, rfl, w0⟩ := open_dk_sized Try.underlying25 (by kernel_rfl) (by kernel_rfl) Try.underlying9 Try.underlying22 Try.underlying3 Try.underlying4 Try.underlying23 Try.underlying118 (by kernel_rfl) (by kernel_rfl) Try.underlying3 Try.underlying9 Try.underlying3 (by kernel_rfl) (hval 0 25 v0 rfl rfl) h0 (weights_each hsz (j := 0) rfl rfl)
  obtain ⟨D1, P1, Q1, rfl, w1⟩ := open_plan Try.underlying28 (by kernel_rfl) (by kernel_rfl) Try.underlying23 Try.underlying26 Try.underlying3 (by kernel_rfl) Try.underlying9 (by kernel_rfl) (hval 1 28 v1 rfl rfl) h1
  obtain ⟨a2, rfl, rfl, rfl, w2⟩ := open_int Try.underlying3 (hval 2 3 v2 rfl rfl) h2
  obtain ⟨a3, rfl, rfl, rfl, w3⟩ := open_int Try.underlying3 (hval 3 3 v3 rfl rfl) h3
  obtain ⟨a4, rfl, rfl, rfl, w4⟩ := open_int Try.underlying3 (hval 4 3 v4 rfl rfl) h4
  obtain ⟨a5, rfl, rfl, rfl, w5⟩ := open_int Try.underlying3 (hval 5 3 v5 rfl rfl) h5
  obtain ⟨a6, b6, rfl, w6⟩ := open_pair Try.underlying49 (by kernel_rfl) (by kernel_rfl) Try.underlying3 Try.underlying3 (hval 6 49 v6 rfl rfl) h6
  clear hA0 hval0
  simp only [List.append_nil] at hW'
  refine (walk W D0 P0 Q0 w0 D1 P1 Q1 w1 a2 w2 a3 w3 a4 w4 a5 w5 a6 b6 w6).mono fun e W' ⟨he, hb⟩ => ?_
  subst he
  exact ⟨_, rfl, post_of_below (pa := _) (pv := []) hW' (fun _ _ _ => (trodAll_cons_mk (shut_bool Try.underlying4 _) trodAll_mk0)) (fun sp hsp => trodAll_stays (by kernel_rfl) hb (by kernel_rfl) hAk (fun x hx => hW'.lt x (by simpa using hx)) (fun x hx => hsp x (by simpa using hx))) (fun _ _ => rfl) (by simp) hb (ok_one (by kernel_rfl) rfl (okWide_bool_mk Try.underlying4 _))⟩
theorem over_ : Rows.tableBackRow.holds Try.pinned (OpenSpec.ofChange Rows.tableBackSpec) :=
  OpenClaim.holds_of_wide 9 Try.f9 rfl rfl rfl rfl rfl rfl rfl ⟨rfl, rfl, rfl, rfl, rfl⟩ rfl rfl rfl rfl rfl (by kernel_rfl) Try.func9 (by kernel_rfl)
    (of_decide_eq_true (by kernel_rfl)) (by unfold Func.isWrapper; first | (rw [if_pos (by decide +kernel)]; kernel_rfl) | (rw [if_neg (by decide +kernel)]; exact ⟨rfl, rfl⟩))
    (fun os started H enc _ => lifted os started H enc)
/-- The statement. -/
theorem proved : Rows.TableBackSaid := over_
#print axioms proved
end Go.Proofs.Ytlajbmmhgflabaa.tableBack
