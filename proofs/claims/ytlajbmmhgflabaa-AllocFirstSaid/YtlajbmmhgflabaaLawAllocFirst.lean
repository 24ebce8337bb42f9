/- AllocFirst: the first free cluster is free, and none ahead of it is: any device, any plan, any geometry. No condition. -/
import Derived.Test.YtlajbmmhgflabaaLaw09a
import Derived.Test.YtlajbmmhgflabaaGood3
import Derived.Test.YtlajbmmhgflabaaOpen3
import Derived.Test.YtlajbmmhgflabaaShut
set_option linter.unusedVariables false
namespace Go.Proofs.Ytlajbmmhgflabaa.allocFirst
open Go.RowKit Go.Shelf Go.WideShapes Go.ChangeShapes Go.ChangeAt
open Go.ChangeMaps (open_string shut_string)
attribute [local go_sem] bs_mk bs_append bs_extract bs_size bs_toList bs_get

set_option maxRecDepth 100000 in
theorem walk_no (D : Dk) (L : Pn) (p q p' q' : Pl) (g h : Int) (w : World) (h0 : IsDk0 w D p q) (hbl : D.bad.length ≤ 17592186044416) (hL : IsPn w L p' q') (hg : (good D L && geomOk g h) = false) :
    Calls Try.prog 12 #[dval D p q, pval L p' q', gval g h] w fun e w' => e = .returned (.bool true) ∧ Below w.heap.size w w' := by
  have hG := fun (W : World) (hb : Below w.heap.size w W) => good09 D L p q p' q' g h W (h0.below hb) (hL.below hb) hbl
  rw [hg] at hG
  clear h0 hL hg
  obtain ⟨A1, a1⟩ := p
  obtain ⟨A2, a2⟩ := q
  obtain ⟨B1, b1⟩ := p'
  obtain ⟨B2, b2⟩ := q'
  have hB := Below.refl w.heap.size w
  have x := Blk.new w 25 #[.string (bs D.data), .slice A1 D.cache.length a1, .int .i64 D.fuse, .bool D.off, .slice A2 D.bad.length a2]
  have xk := blk5 x
  have hB_1 := hB.alloc hB.size (.cells #[.string (bs D.data), .slice A1 D.cache.length a1, .int .i64 D.fuse, .bool D.off, .slice A2 D.bad.length a2] 25)
  have z := Blk.new (w.alloc (.cells #[.string (bs D.data), .slice A1 D.cache.length a1, .int .i64 D.fuse, .bool D.off, .slice A2 D.bad.length a2] 25)) 28 #[.slice B1 L.targets.length b1, .slice B2 L.data.length b2]
  simp only [World.size_alloc] at z
  have zk := blk2 z
  have hB_2 := hB_1.alloc hB_1.size (.cells #[.slice B1 L.targets.length b1, .slice B2 L.data.length b2] 28)
  have x_3 := x.alloc (.cells #[.slice B1 L.targets.length b1, .slice B2 L.data.length b2] 28)
  have xk_3 := blk5 x_3
  have y := Blk.new ((w.alloc (.cells #[.string (bs D.data), .slice A1 D.cache.length a1, .int .i64 D.fuse, .bool D.off, .slice A2 D.bad.length a2] 25)).alloc (.cells #[.slice B1 L.targets.length b1, .slice B2 L.data.length b2] 28)) 67 #[.int .i64 g, .int .i64 h]
  simp only [World.size_alloc] at y
  have yk := blk2 y
  have hB_4 := hB_2.alloc hB_2.size (.cells #[.int .i64 g, .int .i64 h] 67)
  have x_5 := x_3.alloc (.cells #[.int .i64 g, .int .i64 h] 67)
  have xk_5 := blk5 x_5
  have z_6 := z.alloc (.cells #[.int .i64 g, .int .i64 h] 67)
  have zk_6 := blk2 z_6
  go_enter Try.func12, Try.ntmps12
  go_wp2_with fail
  go_at_call 38
  refine ((hG _ hB_4)).mono ?_
  rintro e w1 ⟨rfl, hb1⟩
  replace hB := bt hB_4 hb1
  replace x := x_5.below hb1 x_5.lt
  replace xk := blk5 x
  replace z := z_6.below hb1 z_6.lt
  replace zk := blk2 z
  replace y := y.below hb1 y.lt
  replace yk := blk2 y
  clear hB_1 hB_2 xk_3 x_3 hB_4 xk_5 x_5 zk_6 z_6
  go_wp2_with fail
  go_at_call 39
  refine ((awake09 _)).mono ?_
  rintro e w2 ⟨rfl, hb2⟩
  replace hB := bt hB hb2
  replace x := x.below hb2 x.lt
  replace xk := blk5 x
  replace z := z.below hb2 z.lt
  replace zk := blk2 z
  replace y := y.below hb2 y.lt
  replace yk := blk2 y
  go_wp2_with fail
  go_ret
  exact ⟨rfl, hB⟩

set_option maxRecDepth 100000 in
set_option maxHeartbeats 1000000 in
theorem walk_ok (D : Dk) (L : Pn) (p q p' q' : Pl) (g : Int) (h : Nat) (hh : h ≤ 256) (w : World) (h0 : IsDk0 w D p q) (hbl : D.bad.length ≤ 17592186044416) (hL : IsPn w L p' q') (hgd : good D L = true) (hgo : geomOk g h = true) :
    Calls Try.prog 12 #[dval D p q, pval L p' q', gval g h] w fun e w' => e = .returned (.bool true) ∧ Below w.heap.size w w' := by
  obtain ⟨g1, g2, g3, g4⟩ := good_iff.1 hgd
  have hD := h0.full (by omega) hbl (by omega)
  have hG := fun (W : World) (hb : Below w.heap.size w W) => good09 D L p q p' q' g h W (h0.below hb) (hL.below hb) hbl
  rw [hgd, hgo] at hG
  have hdl := (Dk.fit_parts g3).2.2.1
  have h1 := fun (W : World) (hb : Below w.heap.size w W) => al_find D L p q p' q' W (hD.below hb) (hL.below hb) g3 g4 g h hh
  have h2 := fun (m : Nat) (hm : m ≤ 256) (W : World) (hb : Below w.heap.size w W) => r9_find D L p q p' q' W (hD.below hb) (hL.below hb) g3 g4 g m hm
  have hc := Pn.alFind_cases D L h
  have hfst := Pn.alFirst (D := D) (L := L) (h := (h : Int))
  generalize Pn.alFind D L h = G at h1 hc hfst
  obtain ⟨k', e⟩ := G
  simp only at h1 hc hfst
  by_cases he : e = 0
  case neg =>
    have n1 : (e != 0) = true := by simpa using he
    have hk0 : k' = 0 := by
      rcases hc with ⟨k, _, h9, _⟩ | ⟨_, h9⟩
      · injection h9 with _ h9; exact absurd h9 he
      · exact h9
    subst hk0
    clear h0 hL hgd hgo hD g1 g2 g3 g4 hdl he hc hfst h2
    obtain ⟨A1, a1⟩ := p
    obtain ⟨A2, a2⟩ := q
    obtain ⟨B1, b1⟩ := p'
    obtain ⟨B2, b2⟩ := q'
    have hB := Below.refl w.heap.size w
    have x := Blk.new w 25 #[.string (bs D.data), .slice A1 D.cache.length a1, .int .i64 D.fuse, .bool D.off, .slice A2 D.bad.length a2]
    have xk := blk5 x
    have hB_1 := hB.alloc hB.size (.cells #[.string (bs D.data), .slice A1 D.cache.length a1, .int .i64 D.fuse, .bool D.off, .slice A2 D.bad.length a2] 25)
    have z := Blk.new (w.alloc (.cells #[.string (bs D.data), .slice A1 D.cache.length a1, .int .i64 D.fuse, .bool D.off, .slice A2 D.bad.length a2] 25)) 28 #[.slice B1 L.targets.length b1, .slice B2 L.data.length b2]
    simp only [World.size_alloc] at z
    have zk := blk2 z
    have hB_2 := hB_1.alloc hB_1.size (.cells #[.slice B1 L.targets.length b1, .slice B2 L.data.length b2] 28)
    have x_3 := x.alloc (.cells #[.slice B1 L.targets.length b1, .slice B2 L.data.length b2] 28)
    have xk_3 := blk5 x_3
    have y := Blk.new ((w.alloc (.cells #[.string (bs D.data), .slice A1 D.cache.length a1, .int .i64 D.fuse, .bool D.off, .slice A2 D.bad.length a2] 25)).alloc (.cells #[.slice B1 L.targets.length b1, .slice B2 L.data.length b2] 28)) 67 #[.int .i64 g, .int .i64 h]
    simp only [World.size_alloc] at y
    have yk := blk2 y
    have hB_4 := hB_2.alloc hB_2.size (.cells #[.int .i64 g, .int .i64 h] 67)
    have x_5 := x_3.alloc (.cells #[.int .i64 g, .int .i64 h] 67)
    have xk_5 := blk5 x_5
    have z_6 := z.alloc (.cells #[.int .i64 g, .int .i64 h] 67)
    have zk_6 := blk2 z_6
    go_enter Try.func12, Try.ntmps12
    go_wp2_with fail
    go_at_call 38
    refine ((hG _ hB_4)).mono ?_
    rintro e w1 ⟨rfl, hb1⟩
    replace hB := bt hB_4 hb1
    replace x := x_5.below hb1 x_5.lt
    replace xk := blk5 x
    replace z := z_6.below hb1 z_6.lt
    replace zk := blk2 z
    replace y := y.below hb1 y.lt
    replace yk := blk2 y
    clear hB_1 hB_2 xk_3 x_3 hB_4 xk_5 x_5 zk_6 z_6
    go_wp2_with fail
    go_at_call 40
    refine ((h1 _ hB)).mono ?_
    rintro e w2 ⟨rfl, hb2⟩
    replace hB := bt hB hb2
    replace x := x.below hb2 x.lt
    replace xk := blk5 x
    replace z := z.below hb2 z.lt
    replace zk := blk2 z
    replace y := y.below hb2 y.lt
    replace yk := blk2 y
    go_wp2_with fail
    go_at_call 39
    refine ((awake09 _)).mono ?_
    rintro e w3 ⟨rfl, hb3⟩
    replace hB := bt hB hb3
    replace x := x.below hb3 x.lt
    replace xk := blk5 x
    replace z := z.below hb3 z.lt
    replace zk := blk2 z
    replace y := y.below hb3 y.lt
    replace yk := blk2 y
    go_wp2_with fail
    go_ret
    exact ⟨rfl, hB⟩
  subst he
  obtain ⟨k, rfl, hk, h8⟩ := hfst rfl
  have kl : (0 : Int) ≤ k ∧ (k : Int) < 256 := by omega
  obtain ⟨kl1, kl2⟩ := kl
  by_cases hk8 : k < 8
  case pos =>
    have hmx : max (k : Int) 8 = 8 := by omega
    have hk9 : (k : Int) < 8 := by omega
    have h3 := h2 8 (by omega)
    rw [show ((8 : Nat) : Int) = 8 from rfl] at h3
    generalize Pn.alFind D L 8 = G2 at h3
    obtain ⟨G2, f2⟩ := G2
    clear h0 hL hgd hgo hD g1 g2 g3 g4 hdl hc hfst h2 h8 hk8
    obtain ⟨A1, a1⟩ := p
    obtain ⟨A2, a2⟩ := q
    obtain ⟨B1, b1⟩ := p'
    obtain ⟨B2, b2⟩ := q'
    have hB := Below.refl w.heap.size w
    have x := Blk.new w 25 #[.string (bs D.data), .slice A1 D.cache.length a1, .int .i64 D.fuse, .bool D.off, .slice A2 D.bad.length a2]
    have xk := blk5 x
    have hB_1 := hB.alloc hB.size (.cells #[.string (bs D.data), .slice A1 D.cache.length a1, .int .i64 D.fuse, .bool D.off, .slice A2 D.bad.length a2] 25)
    have z := Blk.new (w.alloc (.cells #[.string (bs D.data), .slice A1 D.cache.length a1, .int .i64 D.fuse, .bool D.off, .slice A2 D.bad.length a2] 25)) 28 #[.slice B1 L.targets.length b1, .slice B2 L.data.length b2]
    simp only [World.size_alloc] at z
    have zk := blk2 z
    have hB_2 := hB_1.alloc hB_1.size (.cells #[.slice B1 L.targets.length b1, .slice B2 L.data.length b2] 28)
    have x_3 := x.alloc (.cells #[.slice B1 L.targets.length b1, .slice B2 L.data.length b2] 28)
    have xk_3 := blk5 x_3
    have y := Blk.new ((w.alloc (.cells #[.string (bs D.data), .slice A1 D.cache.length a1, .int .i64 D.fuse, .bool D.off, .slice A2 D.bad.length a2] 25)).alloc (.cells #[.slice B1 L.targets.length b1, .slice B2 L.data.length b2] 28)) 67 #[.int .i64 g, .int .i64 h]
    simp only [World.size_alloc] at y
    have yk := blk2 y
    have hB_4 := hB_2.alloc hB_2.size (.cells #[.int .i64 g, .int .i64 h] 67)
    have x_5 := x_3.alloc (.cells #[.int .i64 g, .int .i64 h] 67)
    have xk_5 := blk5 x_5
    have z_6 := z.alloc (.cells #[.int .i64 g, .int .i64 h] 67)
    have zk_6 := blk2 z_6
    go_enter Try.func12, Try.ntmps12
    go_wp2_with fail
    go_at_call 38
    refine ((hG _ hB_4)).mono ?_
    rintro e w1 ⟨rfl, hb1⟩
    replace hB := bt hB_4 hb1
    replace x := x_5.below hb1 x_5.lt
    replace xk := blk5 x
    replace z := z_6.below hb1 z_6.lt
    replace zk := blk2 z
    replace y := y.below hb1 y.lt
    replace yk := blk2 y
    clear hB_1 hB_2 xk_3 x_3 hB_4 xk_5 x_5 zk_6 z_6
    go_wp2_with fail
    go_at_call 40
    refine ((h1 _ hB)).mono ?_
    rintro e w2 ⟨rfl, hb2⟩
    replace hB := bt hB hb2
    replace x := x.below hb2 x.lt
    replace xk := blk5 x
    replace z := z.below hb2 z.lt
    replace zk := blk2 z
    replace y := y.below hb2 y.lt
    replace yk := blk2 y
    have u := Blk.new w2 67 #[.int .i64 g, .int .i64 8]
    have uk := blk2 u
    have hB_7 := hB.alloc hB.size (.cells #[.int .i64 g, .int .i64 8] 67)
    have x_8 := x.alloc (.cells #[.int .i64 g, .int .i64 8] 67)
    have xk_8 := blk5 x_8
    have z_9 := z.alloc (.cells #[.int .i64 g, .int .i64 8] 67)
    have zk_9 := blk2 z_9
    have y_10 := y.alloc (.cells #[.int .i64 g, .int .i64 8] 67)
    have yk_10 := blk2 y_10
    go_wp2_with fail
    go_at_call 41
    refine ((h3 _ hB_7)).mono ?_
    rintro e w3 ⟨rfl, hb3⟩
    replace hB := bt hB_7 hb3
    replace x := x_8.below hb3 x_8.lt
    replace xk := blk5 x
    replace z := z_9.below hb3 z_9.lt
    replace zk := blk2 z
    replace y := y_10.below hb3 y_10.lt
    replace yk := blk2 y
    replace u := u.below hb3 u.lt
    replace uk := blk2 u
    clear hB_7 xk_8 x_8 zk_9 z_9 yk_10 y_10
    go_wp2_with fail
    go_at_call 39
    refine ((awake09 _)).mono ?_
    rintro e w4 ⟨rfl, hb4⟩
    replace hB := bt hB hb4
    replace x := x.below hb4 x.lt
    replace xk := blk5 x
    replace z := z.below hb4 z.lt
    replace zk := blk2 z
    replace y := y.below hb4 y.lt
    replace yk := blk2 y
    replace u := u.below hb4 u.lt
    replace uk := blk2 u
    go_wp2_with fail
    go_ret
    exact ⟨rfl, hB⟩
  have hmx : max (k : Int) 8 = k := by omega
  have hk9 : ((k : Int) < 8) = False := by simp; omega
  have hk10 : decide ((k : Int) < 8) = false := by simp; omega
  have h9 := h8 (by omega)
  rw [hmx] at h9
  have h3 := h2 k (by omega)
  obtain ⟨⟨G2, f2⟩, hx⟩ : ∃ x, Pn.alFind D L k = x := ⟨_, rfl⟩
  rw [hx] at h3 h9
  simp only at h3 h9
  subst h9
  clear h0 hL hgd hgo hD g1 g2 g3 g4 hdl hc hfst h2 h8 hk8 hx
  obtain ⟨A1, a1⟩ := p
  obtain ⟨A2, a2⟩ := q
  obtain ⟨B1, b1⟩ := p'
  obtain ⟨B2, b2⟩ := q'
  have hB := Below.refl w.heap.size w
  have x := Blk.new w 25 #[.string (bs D.data), .slice A1 D.cache.length a1, .int .i64 D.fuse, .bool D.off, .slice A2 D.bad.length a2]
  have xk := blk5 x
  have hB_1 := hB.alloc hB.size (.cells #[.string (bs D.data), .slice A1 D.cache.length a1, .int .i64 D.fuse, .bool D.off, .slice A2 D.bad.length a2] 25)
  have z := Blk.new (w.alloc (.cells #[.string (bs D.data), .slice A1 D.cache.length a1, .int .i64 D.fuse, .bool D.off, .slice A2 D.bad.length a2] 25)) 28 #[.slice B1 L.targets.length b1, .slice B2 L.data.length b2]
  simp only [World.size_alloc] at z
  have zk := blk2 z
  have hB_2 := hB_1.alloc hB_1.size (.cells #[.slice B1 L.targets.length b1, .slice B2 L.data.length b2] 28)
  have x_3 := x.alloc (.cells #[.slice B1 L.targets.length b1, .slice B2 L.data.length b2] 28)
  have xk_3 := blk5 x_3
  have y := Blk.new ((w.alloc (.cells #[.string (bs D.data), .slice A1 D.cache.length a1, .int .i64 D.fuse, .bool D.off, .slice A2 D.bad.length a2] 25)).alloc (.cells #[.slice B1 L.targets.length b1, .slice B2 L.data.length b2] 28)) 67 #[.int .i64 g, .int .i64 h]
  simp only [World.size_alloc] at y
  have yk := blk2 y
  have hB_4 := hB_2.alloc hB_2.size (.cells #[.int .i64 g, .int .i64 h] 67)
  have x_5 := x_3.alloc (.cells #[.int .i64 g, .int .i64 h] 67)
  have xk_5 := blk5 x_5
  have z_6 := z.alloc (.cells #[.int .i64 g, .int .i64 h] 67)
  have zk_6 := blk2 z_6
  go_enter Try.func12, Try.ntmps12
  go_wp2_with fail
  go_at_call 38
  refine ((hG _ hB_4)).mono ?_
  rintro e w1 ⟨rfl, hb1⟩
  replace hB := bt hB_4 hb1
  replace x := x_5.below hb1 x_5.lt
  replace xk := blk5 x
  replace z := z_6.below hb1 z_6.lt
  replace zk := blk2 z
  replace y := y.below hb1 y.lt
  replace yk := blk2 y
  clear hB_1 hB_2 xk_3 x_3 hB_4 xk_5 x_5 zk_6 z_6
  go_wp2_with fail
  go_at_call 40
  refine ((h1 _ hB)).mono ?_
  rintro e w2 ⟨rfl, hb2⟩
  replace hB := bt hB hb2
  replace x := x.below hb2 x.lt
  replace xk := blk5 x
  replace z := z.below hb2 z.lt
  replace zk := blk2 z
  replace y := y.below hb2 y.lt
  replace yk := blk2 y
  have u := Blk.new w2 67 #[.int .i64 g, .int .i64 k]
  have uk := blk2 u
  have hB_7 := hB.alloc hB.size (.cells #[.int .i64 g, .int .i64 k] 67)
  have x_8 := x.alloc (.cells #[.int .i64 g, .int .i64 k] 67)
  have xk_8 := blk5 x_8
  have z_9 := z.alloc (.cells #[.int .i64 g, .int .i64 k] 67)
  have zk_9 := blk2 z_9
  have y_10 := y.alloc (.cells #[.int .i64 g, .int .i64 k] 67)
  have yk_10 := blk2 y_10
  go_wp2_with fail
  go_at_call 41
  refine ((h3 _ hB_7)).mono ?_
  rintro e w3 ⟨rfl, hb3⟩
  replace hB := bt hB_7 hb3
  replace x := x_8.below hb3 x_8.lt
  replace xk := blk5 x
  replace z := z_9.below hb3 z_9.lt
  replace zk := blk2 z
  replace y := y_10.below hb3 y_10.lt
  replace yk := blk2 y
  replace u := u.below hb3 u.lt
  replace uk := blk2 u
  clear hB_7 xk_8 x_8 zk_9 z_9 yk_10 y_10
  go_wp2_with fail
  go_at_call 39
  refine ((awake09 _)).mono ?_
  rintro e w4 ⟨rfl, hb4⟩
  replace hB := bt hB hb4
  replace x := x.below hb4 x.lt
  replace xk := blk5 x
  replace z := z.below hb4 z.lt
  replace zk := blk2 z
  replace y := y.below hb4 y.lt
  replace yk := blk2 y
  replace u := u.below hb4 u.lt
  replace uk := blk2 u
  go_wp2_with fail
  go_ret
  exact ⟨rfl, hB⟩
theorem walk (w : World) (D : Dk) (p q : Pl) (hD : IsDk0 w D p q ∧ D.cache.length * Try.prog.bytesOf 118 ≤ reachBytes ∧ D.bad.length * Try.prog.bytesOf 3 ≤ reachBytes) (L : Pn) (p' q' : Pl) (hL : IsPn w L p' q') (g h : Int) (wg : okInt g ∧ okInt h) :
    Calls Try.prog 12 #[dval D p q, pval L p' q', gval g h] w fun e w' => e = .returned (.bool true) ∧ Below w.heap.size w w' := by
  obtain ⟨hD, c1, b1⟩ := hD
  rw [show Try.prog.bytesOf 3 = 8 by kernel_rfl] at b1
  unfold reachBytes at b1
  cases hg : (good D L && geomOk g h) with
  | false => exact walk_no D L p q p' q' g h w hD (by omega) hL hg
  | true =>
    obtain ⟨hgd, hgo⟩ : good D L = true ∧ geomOk g h = true := by simpa using hg
    have hgo' := hgo
    simp only [geomOk, Bool.and_eq_true, decide_eq_true_eq] at hgo'
    obtain ⟨n, rfl⟩ := Int.eq_ofNat_of_zero_le (show 0 ≤ h by omega)
    exact walk_ok D L p q p' q' g n (by omega) w hD (by omega) hL hgd hgo
/-! ### The row -/
theorem own : ownKnob Try.prog.godebug = none := by kernel_rfl
set_option maxRecDepth 100000 in
theorem lifted (os : Os) (started : os.Started) (H : Type) (enc : TypeId × Value → H) :
    ReturnsInHanded {} Try.checked os 12 .any (Rows.allocFirstSpec.pre6 enc Try.prog Try.f12 Rows.allocFirstRow.domain false) (Rows.allocFirstSpec.post enc Try.prog Try.f12 false true false false) := by
  refine returnsInHanded_of_change_sized (C := Try.checked) own started (by kernel_rfl) Try.func12
    (ChangeSpec.witness6 (enc := enc) (C := Try.checked) false ⟨#[], #[.agg #[.string ByteArray.empty, .slice none 0 0, .int .i64 0, .bool false, .slice none 0 0], .agg #[.slice none 0 0, .slice none 0 0], .agg #[.int .i64 0, .int .i64 0]], []⟩ 8 (by kernel_rfl) (by kernel_rfl) (by kernel_rfl) (by kernel_rfl)) ?_
  intro W base args ds gs before hval0 hW hcnd hsz0 _
  have hval : ∀ (j : Nat) t v, Try.f12.params[j]? = some t → args[j]? = some v → Value.okWide Try.prog W .any base t v := hval0
  have hW' := hW
  obtain ⟨p, q, hA0, hV, rfl, hfz, hnd⟩ := hW
  have hA : DataW.TrodAll enc Try.prog W 0 (fun _ => true) true Try.f12.params.toList args.toList ds p := hA0
  have hAk := hA
  have hsz : (DataW.weightsEach Try.prog (Try.f12.params.toList ++ Rows.allocFirstSpec.plain.varTypes Try.prog) (ds ++ gs)).all (· ≤ reachBytes) = true := hsz0
  rw [Try.params12] at hA hval hsz
  obtain ⟨v0, vs0, d0, ds0, p0, q0, hargs, rfl, rfl, h0, r0⟩ := trodAll_cons hA
  obtain ⟨v1, vs1, d1, ds1, p1, q1, rfl, rfl, rfl, h1, r1⟩ := trodAll_cons r0
  obtain ⟨v2, vs2, d2, ds2, p2, q2, rfl, rfl, rfl, h2, r2⟩ := trodAll_cons r1
  obtain ⟨rfl, rfl, rfl⟩ := trodAll_nil r2
  obtain rfl : args = #[v0, v1, v2] := by cases args; simp_all
  obtain ⟨rfl, rfl⟩ := trodVars_none hV
  obtain ⟨D0, P0, Q0, rfl, w0⟩ := open_dk_sized Try.underlying25 (by kernel_rfl) (by kernel_rfl) Try.underlying9 Try.underlying22 Try.underlying3 Try.underlying4 Try.underlying23 Try.underlying118 (by kernel_rfl) (by kernel_rfl) Try.underlying3 Try.underlying9 Try.underlying3 (by kernel_rfl) (hval 0 25 v0 rfl rfl) h0 (weights_each hsz (j := 0) rfl rfl)
  obtain ⟨D1, P1, Q1, rfl, w1⟩ := open_plan Try.underlying28 (by kernel_rfl) (by kernel_rfl) Try.underlying23 Try.underlying26 Try.underlying3 (by kernel_rfl) Try.underlying9 (by kernel_rfl) (hval 1 28 v1 rfl rfl) h1
  obtain ⟨a2, b2, rfl, w2⟩ := open_pair Try.underlying67 (by kernel_rfl) (by kernel_rfl) Try.underlying3 Try.underlying3 (hval 2 67 v2 rfl rfl) h2
  clear hA0 hval0
  simp only [List.append_nil] at hW'
  refine (walk W D0 P0 Q0 w0 D1 P1 Q1 w1 a2 b2 w2).mono fun e W' ⟨he, hb⟩ => ?_
  subst he
  exact ⟨_, rfl, post_of_below (pa := _) (pv := []) hW' (fun _ _ _ => (trodAll_cons_mk (shut_bool Try.underlying4 _) trodAll_mk0)) (fun sp hsp => trodAll_stays (by kernel_rfl) hb (by kernel_rfl) hAk (fun x hx => hW'.lt x (by simpa using hx)) (fun x hx => hsp x (by simpa using hx))) (fun _ _ => rfl) (by simp) hb (ok_one (by kernel_rfl) rfl (okWide_bool_mk Try.underlying4 _))⟩
theorem over_ : Rows.allocFirstRow.holds Try.pinned (OpenSpec.ofChange Rows.allocFirstSpec) :=
  OpenClaim.holds_of_wide 12 Try.f12 rfl rfl rfl rfl rfl rfl rfl ⟨rfl, rfl, rfl, rfl, rfl⟩ rfl rfl rfl rfl rfl (by kernel_rfl) Try.func12 (by kernel_rfl)
    (of_decide_eq_true (by kernel_rfl)) (by unfold Func.isWrapper; first | (rw [if_pos (by decide +kernel)]; kernel_rfl) | (rw [if_neg (by decide +kernel)]; exact ⟨rfl, rfl⟩))
    (fun os started H enc _ => lifted os started H enc)
/-- The statement. -/
theorem proved : Rows.AllocFirstSaid := over_
#print axioms proved
end Go.Proofs.Ytlajbmmhgflabaa.allocFirst
