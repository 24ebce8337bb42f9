/- Package alloc: a cluster is taken. -/
import Derived.Test.YtlajbmmhgflabaaAlloc4
set_option linter.unusedVariables false
namespace Go.Proofs.Ytlajbmmhgflabaa
open Go.RowKit Go.Shelf
attribute [local go_sem] bs_mk bs_append bs_extract bs_size bs_toList bs_get
set_option maxRecDepth 100000 in
theorem al_take (D : Dk) (L : Pn) (p q p' q' : Pl) (w : World) (hD : IsDk w D p q) (hL : IsPn w L p' q') (hf : D.fit = true) (hfl : L.Fit) (g : Int) (h : Nat) (hh : h ≤ 256) :
    Calls Try.prog 42 #[dval D p q, pval L p' q', gval g h] w fun e w' => ∃ p1 q1, e = .returned (.tuple #[pval (Pn.alTake D L h).1 p1 q1, .int .i64 (Pn.alTake D L h).2.1, .int .i64 (Pn.alTake D L h).2.2]) ∧ IsPn w' (Pn.alTake D L h).1 p1 q1 ∧ (∀ x, x < w.heap.size → PnOff x L p' q' → PnOff x (Pn.alTake D L h).1 p1 q1) ∧ Below w.heap.size w w' := by
  have h1 := fun (W : World) (hb : Below w.heap.size w W) => al_find D L p q p' q' W (hD.below hb) (hL.below hb) hf hfl g h hh
  have h2 := fun (W : World) (hb : Below w.heap.size w W) (k : Int) (hk : -9223372036854775808 ≤ k ∧ k ≤ 9223372036854775807) => rc_add D L p q p' q' W (hD.below hb) (hL.below hb) hf hfl k 1 (by omega)
  have Hap := hid (fun g (hg : w.heap.size ≤ g) => hL.apart hg)
  have Hz := hid (fun (W : World) (hb : Below w.heap.size w W) => hL.below hb)
  have hcs := Pn.alFind_cases D L h
  have Ht := Pn.alTake.eq_1 D L h
  generalize Pn.alFind D L h = S at h1 Ht hcs
  obtain ⟨k, e1⟩ := S
  simp only at h1 Ht hcs
  have hk : 0 ≤ k ∧ k ≤ 256 := by
    rcases hcs with ⟨j, hj, e, _⟩ | ⟨_, e⟩
    · injection e with e _; omega
    · omega
  have Ht := hid Ht
  clear hcs hD hL hf hfl
  have h3 := fun (W : World) (hb : Below w.heap.size w W) => h2 W hb k (by omega)
  clear h2
  generalize Pn.cntAdd D L k 1 = N at h3 Ht
  obtain ⟨X, e2⟩ := N
  obtain ⟨A1, a1⟩ := p
  obtain ⟨A2, a2⟩ := q
  obtain ⟨B1, b1⟩ := p'
  obtain ⟨B2, b2⟩ := q'
  have hB := Below.refl w.heap.size w
  have x := Blk.new w 25 #[.string (bs D.data), .slice A1 D.cache.length a1, .int .i64 D.fuse, .bool D.off, .slice A2 D.bad.length a2]
  have xk := blk5 x
  have hB_1 := hB.alloc hB.size (.cells #[.string (bs D.data), .slice A1 D.cache.length a1, .int .i64 D.fuse, .bool D.off, .slice A2 D.bad.length a2] 25)
  have z := Blk.new (w.alloc (.cells #[.string (bs D.data), .slice A1 D.cache.length a1, .int .i64 D.fuse, .bool D.off, .slice A2 D.bad.length a2] 25)) 28 #[.slice B1 L.targets.length b1, .slice B2 L.data.length b2]
  simp only [World.size_alloc] at z
  have zk := blk2 z
  have hB_2 := hB_1.alloc hB_1.size (.cells #[.slice B1 L.targets.length b1, .slice B2 L.data.length b2] 28)
  have x_3 := x.alloc (.cells #[.slice B1 L.targets.length b1, .slice B2 L.data.length b2] 28)
  have xk_3 := blk5 x_3
  have y := Blk.new ((w.alloc (.cells #[.string (bs D.data), .slice A1 D.cache.length a1, .int .i64 D.fuse, .bool D.off, .slice A2 D.bad.length a2] 25)).alloc (.cells #[.slice B1 L.targets.length b1, .slice B2 L.data.length b2] 28)) 67 #[.int .i64 g, .int .i64 h]
  simp only [World.size_alloc] at y
  have yk := blk2 y
  have hB_4 := hB_2.alloc hB_2.size (.cells #[.int .i64 g, .int .i64 h] 67)
  have x_5 := x_3.alloc (.cells #[.int .i64 g, .int .i64 h] 67)
  have xk_5 := blk5 x_5
  have z_6 := z.alloc (.cells #[.int .i64 g, .int .i64 h] 67)
  have zk_6 := blk2 z_6
  have r := Blk.new (((w.alloc (.cells #[.string (bs D.data), .slice A1 D.cache.length a1, .int .i64 D.fuse, .bool D.off, .slice A2 D.bad.length a2] 25)).alloc (.cells #[.slice B1 L.targets.length b1, .slice B2 L.data.length b2] 28)).alloc (.cells #[.int .i64 g, .int .i64 h] 67)) 28 #[.slice Option.none 0 0, .slice Option.none 0 0]
  simp only [World.size_alloc] at r
  have rk := blk2 r
  have rkf := r.frozen
  have hB_7 := hB_4.alloc hB_4.size (.cells #[.slice Option.none 0 0, .slice Option.none 0 0] 28)
  have x_8 := x_5.alloc (.cells #[.slice Option.none 0 0, .slice Option.none 0 0] 28)
  have xk_8 := blk5 x_8
  have z_9 := z_6.alloc (.cells #[.slice Option.none 0 0, .slice Option.none 0 0] 28)
  have zk_9 := blk2 z_9
  have y_10 := y.alloc (.cells #[.slice Option.none 0 0, .slice Option.none 0 0] 28)
  have yk_10 := blk2 y_10
  go_enter Try.func42, Try.ntmps42
  go_wp2_with fail
  go_at_call 40
  refine ((h1 _ hB_7)).mono ?_
  rintro e w1 ⟨rfl, hb1⟩
  replace hB := bt hB_7 hb1
  replace x := x_8.below hb1 x_8.lt
  replace xk := blk5 x
  replace z := z_9.below hb1 z_9.lt
  replace zk := blk2 z
  replace y := y_10.below hb1 y_10.lt
  replace yk := blk2 y
  replace r := r.below hb1 r.lt
  replace rk := blk2 r
  replace rkf := r.frozen
  clear hB_1 hB_2 xk_3 x_3 hB_4 xk_5 x_5 zk_6 z_6 hB_7 xk_8 x_8 zk_9 z_9 yk_10 y_10
  have rl : w.heap.size + 1 + 1 + 1 < w1.heap.size := r.lt
  by_cases he : e1 = 0
  case neg =>
    have n1 : (e1 != 0) = true := by simpa using he
    have Hr := hid (show Pn.alTake D L h = (L, 0, e1) by rw [Ht.out, if_pos he])
    clear he
    go_wp2_with fail
    rw [Hr.out]
    have yy := blk2 (blk_set2 r (.slice B1 L.targets.length b1) (.slice B2 L.data.length b2))
    have b9 := below_set2 hB (g := w.heap.size + 1 + 1 + 1) (by omega) (.slice B1 L.targets.length b1) (.slice B2 L.data.length b2)
    refine bodyPost_ret (v := .tuple #[pval L ⟨B1, b1⟩ ⟨B2, b2⟩, .int .i64 0, .int .i64 e1]) (by simp [results, Try.results42, go_sem, yy]) rfl ?_
    exact ⟨_, _, rfl, Hz.out _ b9, fun _ _ h => h, b9⟩
  subst he
  go_wp2_with fail
  go_at_call 15
  refine ((h3 _ hB)).mono ?_
  rintro e w2 ⟨⟨p3, q3, rfl, i3, o3⟩, hb2⟩
  replace hB := bt hB hb2
  replace x := x.below hb2 x.lt
  replace xk := blk5 x
  replace z := z.below hb2 z.lt
  replace zk := blk2 z
  replace y := y.below hb2 y.lt
  replace yk := blk2 y
  replace r := r.below hb2 r.lt
  replace rk := blk2 r
  replace rkf := r.frozen
  have oy := o3 (w.heap.size + 1 + 1 + 1) rl (Hap.out _ (by omega))
  have rl2 : w.heap.size + 1 + 1 + 1 < w2.heap.size := r.lt
  have r0 := r
  have hB0 := hB
  have j3 := i3
  have u := Blk.new w2 28 #[.slice p3.a X.targets.length p3.c, .slice q3.a X.data.length q3.c]
  have uk := blk2 u
  have hB_11 := hB.alloc hB.size (.cells #[.slice p3.a X.targets.length p3.c, .slice q3.a X.data.length q3.c] 28)
  have x_12 := x.alloc (.cells #[.slice p3.a X.targets.length p3.c, .slice q3.a X.data.length q3.c] 28)
  have xk_12 := blk5 x_12
  have z_13 := z.alloc (.cells #[.slice p3.a X.targets.length p3.c, .slice q3.a X.data.length q3.c] 28)
  have zk_13 := blk2 z_13
  have y_14 := y.alloc (.cells #[.slice p3.a X.targets.length p3.c, .slice q3.a X.data.length q3.c] 28)
  have yk_14 := blk2 y_14
  have r_15 := r.alloc (.cells #[.slice p3.a X.targets.length p3.c, .slice q3.a X.data.length q3.c] 28)
  have rk_15 := blk2 r_15
  have rkf_15 := r_15.frozen
  have i3_16 := i3.below ((Below.refl _ _).alloc (Nat.le_refl _) (.cells #[.slice p3.a X.targets.length p3.c, .slice q3.a X.data.length q3.c] 28))
  by_cases he : e2 = 0
  case neg =>
    have n1 : (e2 != 0) = true := by simpa using he
    have Hr := hid (show Pn.alTake D L h = (L, 0, e2) by rw [Ht.out, if_neg (by simp), if_pos he])
    clear he
    go_wp2_with fail
    rw [Hr.out]
    have yy := blk2 ((blk_set2 r0 (.slice B1 L.targets.length b1) (.slice B2 L.data.length b2)).alloc (.cells #[.slice p3.a X.targets.length p3.c, .slice q3.a X.data.length q3.c] 28))
    have b8 := below_set2 hB0 (g := w.heap.size + 1 + 1 + 1) (by omega) (.slice B1 L.targets.length b1) (.slice B2 L.data.length b2)
    have b9 := b8.alloc b8.size (.cells #[.slice p3.a X.targets.length p3.c, .slice q3.a X.data.length q3.c] 28)
    refine bodyPost_ret (v := .tuple #[pval L ⟨B1, b1⟩ ⟨B2, b2⟩, .int .i64 0, .int .i64 e2]) (by simp [results, Try.results42, go_sem, yy]) rfl ?_
    exact ⟨_, _, rfl, Hz.out _ b9, fun _ _ h => h, b9⟩
  subst he
  have Hr := hid (show Pn.alTake D L h = (X, k, 0) by rw [Ht.out, if_neg (by simp), if_neg (by simp)])
  go_wp2_with fail
  rw [Hr.out]
  have yy := blk2 ((blk_set2 r0 (.slice p3.a X.targets.length p3.c) (.slice q3.a X.data.length q3.c)).alloc (.cells #[.slice p3.a X.targets.length p3.c, .slice q3.a X.data.length q3.c] 28))
  have b8 := below_set2 hB0 (g := w.heap.size + 1 + 1 + 1) (by omega) (.slice p3.a X.targets.length p3.c) (.slice q3.a X.data.length q3.c)
  have b9 := b8.alloc b8.size (.cells #[.slice p3.a X.targets.length p3.c, .slice q3.a X.data.length q3.c] 28)
  refine bodyPost_ret (v := .tuple #[pval X p3 q3, .int .i64 k, .int .i64 0]) (by simp [results, Try.results42, go_sem, yy]) rfl ?_
  exact ⟨_, _, rfl, (j3.off2 oy _ _).below ((Below.refl _ _).alloc (Nat.le_refl _) _), fun g hg h => o3 g (by omega) h, b9⟩
end Go.Proofs.Ytlajbmmhgflabaa
