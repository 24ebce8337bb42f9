/- Package table and the document's ref11: what a first table has of one of the guest's clusters. -/
import Derived.Test.YtlapjkbefkmohaaGreatSdTable4
set_option linter.unusedVariables false
namespace Go.Proofs.YtlapjkbefkmohaaGreat
open Go.RowKit Go.Shelf
attribute [local go_sem] bs_mk bs_append bs_extract bs_size bs_toList bs_get

theorem t_find_no (D : Dk) (L : Pn) (p q p' q' : Pl) (w : World) (t g : Int) (h : g < 0 ∨ 64 ≤ g) :
 Calls Tryz.prog 117 #[dval D p q, pval L p' q', .int .i64 t, .int .i64 g] w fun e w' => e = .returned (.tuple #[eval2 (Pn.tabFind D L t g).1.1 (Pn.tabFind D L t g).1.2, .int .i64 (Pn.tabFind D L t g).2]) ∧ Below w.heap.size w w' := by
 have Hr := hid (show Pn.tabFind D L t g = ((0, 0), 10) by rw [Pn.tabFind, if_pos h])
 obtain ⟨A1, a1⟩ := p
 obtain ⟨A2, a2⟩ := q
 obtain ⟨B1, b1⟩ := p'
 obtain ⟨B2, b2⟩ := q'
 have hB := Below.refl w.heap.size w
 have x := Blk.new w 25 #[.string (bs D.data), .slice A1 D.cache.length a1, .int .i64 D.fuse, .bool D.off, .slice A2 D.bad.length a2]
 have xk := blk5 x
 have hB_1 := hB.alloc hB.size (.cells #[.string (bs D.data), .slice A1 D.cache.length a1, .int .i64 D.fuse, .bool D.off, .slice A2 D.bad.length a2] 25)
 have z := Blk.new (w.alloc (.cells #[.string (bs D.data), .slice A1 D.cache.length a1, .int .i64 D.fuse, .bool D.off, .slice A2 D.bad.length a2] 25)) 67 #[.slice B1 L.targets.length b1, .slice B2 L.data.length b2]
 simp only [World.size_alloc] at z
 have zk := blk2 z
 have hB_2 := hB_1.alloc hB_1.size (.cells #[.slice B1 L.targets.length b1, .slice B2 L.data.length b2] 67)
 have x_3 := x.alloc (.cells #[.slice B1 L.targets.length b1, .slice B2 L.data.length b2] 67)
 have xk_3 := blk5 x_3
 have r := Blk.new ((w.alloc (.cells #[.string (bs D.data), .slice A1 D.cache.length a1, .int .i64 D.fuse, .bool D.off, .slice A2 D.bad.length a2] 25)).alloc (.cells #[.slice B1 L.targets.length b1, .slice B2 L.data.length b2] 67)) 73 #[.int .i64 0, .int .i64 0]
 simp only [World.size_alloc] at r
 have rk := blk2 r
 have rkf := r.frozen
 have hB_4 := hB_2.alloc hB_2.size (.cells #[.int .i64 0, .int .i64 0] 73)
 have x_5 := x_3.alloc (.cells #[.int .i64 0, .int .i64 0] 73)
 have xk_5 := blk5 x_5
 have z_6 := z.alloc (.cells #[.int .i64 0, .int .i64 0] 73)
 have zk_6 := blk2 z_6
 by_cases h0 : g < 0
 · clear h
   go_enter Tryz.func117, Tryz.ntmps117
   go_wp2_with fail
   rw [Hr.out]
   refine bodyPost_ret (v := .tuple #[eval2 0 0, .int .i64 10]) (by simp [results, Tryz.results117, go_sem]) rfl ?_
   exact ⟨rfl, hB_4⟩
 · have h1 : 64 ≤ g := by omega
   clear h
   go_enter Tryz.func117, Tryz.ntmps117
   go_wp2_with fail
   rw [Hr.out]
   refine bodyPost_ret (v := .tuple #[eval2 0 0, .int .i64 10]) (by simp [results, Tryz.results117, go_sem]) rfl ?_
   exact ⟨rfl, hB_4⟩
set_option maxRecDepth 100000 in
theorem t_find_yes (D : Dk) (L : Pn) (p q p' q' : Pl) (w : World) (hD : IsDk w D p q) (hL : IsPn w L p' q') (hf : D.fit = true) (hfl : L.Fit) (t : Int) (g : Nat) (h : g < 64) :
 Calls Tryz.prog 117 #[dval D p q, pval L p' q', .int .i64 t, .int .i64 g] w fun e w' => e = .returned (.tuple #[eval2 (Pn.tabFind D L t g).1.1 (Pn.tabFind D L t g).1.2, .int .i64 (Pn.tabFind D L t g).2]) ∧ Below w.heap.size w w' := by
 have g0 : (0 : Int) ≤ (g : Int) := by omega
 have g1 : (g : Int) < 64 := by omega
 have hg1 := fun (W : World) (hb : Below w.heap.size w W) => t_get D L p q p' q' W (hD.below hb) (hL.below hb) hf hfl t ((g : Int) / 16)
 have hg2 := fun (W : World) (hb : Below w.heap.size w W) (T : Int) => t_get D L p q p' q' W (hD.below hb) (hL.below hb) hf hfl T ((g : Int) % 16)
 have Hw := hid (show Pn.tabFind D L t g = if (Pn.tabGet D L t ((g : Int) / 16)).2 ≠ 0 ∨ (Pn.tabGet D L t ((g : Int) / 16)).1.1 = 0 then ((0, 0), (Pn.tabGet D L t ((g : Int) / 16)).2)
  else if (Pn.tabGet D L t ((g : Int) / 16)).1.1 = 2 then ((0, 0), 14) else Pn.tabGet D L (Pn.tabGet D L t ((g : Int) / 16)).1.2 ((g : Int) % 16) by rw [Pn.tabFind, if_neg (by omega)])
 have hsm := Pn.tabGet_small D L t ((g : Int) / 16)
 generalize Pn.tabGet D L t ((g : Int) / 16) = E at hg1 Hw hsm
 obtain ⟨⟨K, A⟩, er⟩ := E
 simp only at hg1 Hw hsm
 obtain ⟨s1, s2, s3, s4⟩ := hsm
 clear hD hL hf hfl
 obtain ⟨A1, a1⟩ := p
 obtain ⟨A2, a2⟩ := q
 obtain ⟨B1, b1⟩ := p'
 obtain ⟨B2, b2⟩ := q'
 have hB := Below.refl w.heap.size w
 have x := Blk.new w 25 #[.string (bs D.data), .slice A1 D.cache.length a1, .int .i64 D.fuse, .bool D.off, .slice A2 D.bad.length a2]
 have xk := blk5 x
 have hB_1 := hB.alloc hB.size (.cells #[.string (bs D.data), .slice A1 D.cache.length a1, .int .i64 D.fuse, .bool D.off, .slice A2 D.bad.length a2] 25)
 have z := Blk.new (w.alloc (.cells #[.string (bs D.data), .slice A1 D.cache.length a1, .int .i64 D.fuse, .bool D.off, .slice A2 D.bad.length a2] 25)) 67 #[.slice B1 L.targets.length b1, .slice B2 L.data.length b2]
 simp only [World.size_alloc] at z
 have zk := blk2 z
 have hB_2 := hB_1.alloc hB_1.size (.cells #[.slice B1 L.targets.length b1, .slice B2 L.data.length b2] 67)
 have x_3 := x.alloc (.cells #[.slice B1 L.targets.length b1, .slice B2 L.data.length b2] 67)
 have xk_3 := blk5 x_3
 have r := Blk.new ((w.alloc (.cells #[.string (bs D.data), .slice A1 D.cache.length a1, .int .i64 D.fuse, .bool D.off, .slice A2 D.bad.length a2] 25)).alloc (.cells #[.slice B1 L.targets.length b1, .slice B2 L.data.length b2] 67)) 73 #[.int .i64 0, .int .i64 0]
 simp only [World.size_alloc] at r
 have rk := blk2 r
 have rkf := r.frozen
 have hB_4 := hB_2.alloc hB_2.size (.cells #[.int .i64 0, .int .i64 0] 73)
 have x_5 := x_3.alloc (.cells #[.int .i64 0, .int .i64 0] 73)
 have xk_5 := blk5 x_5
 have z_6 := z.alloc (.cells #[.int .i64 0, .int .i64 0] 73)
 have zk_6 := blk2 z_6
 go_enter Tryz.func117, Tryz.ntmps117
 go_wp2_with fail
 go_at_call 118
 refine ((hg1 _ hB_4)).mono ?_
 rintro e w1 ⟨rfl, hb1⟩
 replace hB := bt hB_4 hb1
 replace x := x_5.below hb1 x_5.lt
 replace xk := blk5 x
 replace z := z_6.below hb1 z_6.lt
 replace zk := blk2 z
 replace r := r.below hb1 r.lt
 replace rk := blk2 r
 replace rkf := r.frozen
 clear hB_1 hB_2 xk_3 x_3 hB_4 xk_5 x_5 zk_6 z_6
 have y := Blk.new w1 73 #[.int .i64 K, .int .i64 A]
 have yk := blk2 y
 have hB_7 := hB.alloc hB.size (.cells #[.int .i64 K, .int .i64 A] 73)
 have x_8 := x.alloc (.cells #[.int .i64 K, .int .i64 A] 73)
 have xk_8 := blk5 x_8
 have z_9 := z.alloc (.cells #[.int .i64 K, .int .i64 A] 73)
 have zk_9 := blk2 z_9
 have r_10 := r.alloc (.cells #[.int .i64 K, .int .i64 A] 73)
 have rk_10 := blk2 r_10
 have rkf_10 := r_10.frozen
 by_cases h1 : er = 0
 case neg =>
  have n1 : (er != 0) = true := by simpa using h1
  have Hr := hid (show Pn.tabFind D L t g = ((0, 0), er) by rw [Hw.out, if_pos (.inl h1)])
  clear h1
  have w1l := hB_7.size
  go_wp2_with fail
  rw [Hr.out]
  have yy := blk2 (blk_set2 r_10 (.int .i64 0) (.int .i64 0))
  have b9 := below_set2 hB_7 (g := w.heap.size + 1 + 1) (by first | exact Nat.le_refl _ | (simp; omega) | omega) (.int .i64 0) (.int .i64 0)
  refine bodyPost_ret (v := .tuple #[eval2 0 0, .int .i64 er]) (by simp [results, Tryz.results117, go_sem, yy]) rfl ?_
  exact ⟨rfl, b9⟩
 subst h1
 by_cases h2 : K = 0
 · subst h2
   have Hr := hid (show Pn.tabFind D L t g = ((0, 0), 0) by rw [Hw.out, if_pos (.inr rfl)])
   have w1l := hB_7.size
   go_wp2_with fail
   rw [Hr.out]
   have yy := blk2 (blk_set2 r_10 (.int .i64 0) (.int .i64 0))
   have b9 := below_set2 hB_7 (g := w.heap.size + 1 + 1) (by first | exact Nat.le_refl _ | (simp; omega) | omega) (.int .i64 0) (.int .i64 0)
   refine bodyPost_ret (v := .tuple #[eval2 0 0, .int .i64 0]) (by simp [results, Tryz.results117, go_sem, yy]) rfl ?_
   exact ⟨rfl, b9⟩
 · have n2 : (K == 0) = false := by simpa using h2
   by_cases h3 : K = 2
   · subst h3
     have Hr := hid (show Pn.tabFind D L t g = ((0, 0), 14) by rw [Hw.out, if_neg (by simp), if_pos rfl])
     clear h2
     have w1l := hB_7.size
     go_wp2_with fail
     rw [Hr.out]
     have yy := blk2 (blk_set2 r_10 (.int .i64 0) (.int .i64 0))
     have b9 := below_set2 hB_7 (g := w.heap.size + 1 + 1) (by first | exact Nat.le_refl _ | (simp; omega) | omega) (.int .i64 0) (.int .i64 0)
     refine bodyPost_ret (v := .tuple #[eval2 0 0, .int .i64 14]) (by simp [results, Tryz.results117, go_sem, yy]) rfl ?_
     exact ⟨rfl, b9⟩
   · have n3 : (K == 2) = false := by simpa using h3
     have Hr := hid (show Pn.tabFind D L t g = Pn.tabGet D L A ((g : Int) % 16) by rw [Hw.out, if_neg (by simp [h2]), if_neg h3])
     have hg3 := fun (W : World) (hb : Below w.heap.size w W) => hg2 W hb A
     clear h2 h3 hg2 hg1
     generalize Pn.tabGet D L A ((g : Int) % 16) = E2 at hg3 Hr
     obtain ⟨⟨K2, A2'⟩, er2⟩ := E2
     simp only at hg3
     go_wp2_with fail
     go_at_call 118
     refine ((hg3 _ hB_7)).mono ?_
     rintro e w2 ⟨rfl, hb2⟩
     replace hB := bt hB_7 hb2
     replace x := x_8.below hb2 x_8.lt
     replace xk := blk5 x
     replace z := z_9.below hb2 z_9.lt
     replace zk := blk2 z
     replace r := r_10.below hb2 r_10.lt
     replace rk := blk2 r
     replace rkf := r.frozen
     replace y := y.below hb2 y.lt
     replace yk := blk2 y
     clear hB_7 xk_8 x_8 zk_9 z_9 rk_10 rkf_10 r_10
     have w1l := hB.size
     go_wp2_with fail
     rw [Hr.out]
     have yy := blk2 (blk_set2 r (.int .i64 K2) (.int .i64 A2'))
     have b9 := below_set2 hB (g := w.heap.size + 1 + 1) (by first | exact Nat.le_refl _ | (simp; omega) | omega) (.int .i64 K2) (.int .i64 A2')
     refine bodyPost_ret (v := .tuple #[eval2 K2 A2', .int .i64 er2]) (by simp [results, Tryz.results117, go_sem, yy]) rfl ?_
     exact ⟨rfl, b9⟩
theorem t_find (D : Dk) (L : Pn) (p q p' q' : Pl) (w : World) (hD : IsDk w D p q) (hL : IsPn w L p' q') (hf : D.fit = true) (hfl : L.Fit) (t g : Int) :
 Calls Tryz.prog 117 #[dval D p q, pval L p' q', .int .i64 t, .int .i64 g] w fun e w' => e = .returned (.tuple #[eval2 (Pn.tabFind D L t g).1.1 (Pn.tabFind D L t g).1.2, .int .i64 (Pn.tabFind D L t g).2]) ∧ Below w.heap.size w w' := by
 by_cases h : g < 0 ∨ 64 ≤ g
 · exact t_find_no D L p q p' q' w t g h
 · obtain ⟨g, rfl⟩ := Int.eq_ofNat_of_zero_le (show 0 ≤ g by omega)
   exact t_find_yes D L p q p' q' w hD hL hf hfl t g (by omega)
theorem t11_find_no (D : Dk) (L : Pn) (p q p' q' : Pl) (w : World) (t g : Int) (h : g < 0 ∨ 64 ≤ g) :
 Calls Tryz.prog 23 #[dval D p q, pval L p' q', .int .i64 t, .int .i64 g] w fun e w' => e = .returned (.tuple #[eval2 (Pn.tabFind D L t g).1.1 (Pn.tabFind D L t g).1.2, .int .i64 (Pn.tabFind D L t g).2]) ∧ Below w.heap.size w w' := by
 have Hr := hid (show Pn.tabFind D L t g = ((0, 0), 10) by rw [Pn.tabFind, if_pos h])
 obtain ⟨A1, a1⟩ := p
 obtain ⟨A2, a2⟩ := q
 obtain ⟨B1, b1⟩ := p'
 obtain ⟨B2, b2⟩ := q'
 have hB := Below.refl w.heap.size w
 have x := Blk.new w 25 #[.string (bs D.data), .slice A1 D.cache.length a1, .int .i64 D.fuse, .bool D.off, .slice A2 D.bad.length a2]
 have xk := blk5 x
 have hB_1 := hB.alloc hB.size (.cells #[.string (bs D.data), .slice A1 D.cache.length a1, .int .i64 D.fuse, .bool D.off, .slice A2 D.bad.length a2] 25)
 have z := Blk.new (w.alloc (.cells #[.string (bs D.data), .slice A1 D.cache.length a1, .int .i64 D.fuse, .bool D.off, .slice A2 D.bad.length a2] 25)) 67 #[.slice B1 L.targets.length b1, .slice B2 L.data.length b2]
 simp only [World.size_alloc] at z
 have zk := blk2 z
 have hB_2 := hB_1.alloc hB_1.size (.cells #[.slice B1 L.targets.length b1, .slice B2 L.data.length b2] 67)
 have x_3 := x.alloc (.cells #[.slice B1 L.targets.length b1, .slice B2 L.data.length b2] 67)
 have xk_3 := blk5 x_3
 have r := Blk.new ((w.alloc (.cells #[.string (bs D.data), .slice A1 D.cache.length a1, .int .i64 D.fuse, .bool D.off, .slice A2 D.bad.length a2] 25)).alloc (.cells #[.slice B1 L.targets.length b1, .slice B2 L.data.length b2] 67)) 73 #[.int .i64 0, .int .i64 0]
 simp only [World.size_alloc] at r
 have rk := blk2 r
 have rkf := r.frozen
 have hB_4 := hB_2.alloc hB_2.size (.cells #[.int .i64 0, .int .i64 0] 73)
 have x_5 := x_3.alloc (.cells #[.int .i64 0, .int .i64 0] 73)
 have xk_5 := blk5 x_5
 have z_6 := z.alloc (.cells #[.int .i64 0, .int .i64 0] 73)
 have zk_6 := blk2 z_6
 by_cases h0 : g < 0
 · clear h
   go_enter Tryz.func23, Tryz.ntmps23
   go_wp2_with fail
   rw [Hr.out]
   refine bodyPost_ret (v := .tuple #[eval2 0 0, .int .i64 10]) (by simp [results, Tryz.results23, go_sem]) rfl ?_
   exact ⟨rfl, hB_4⟩
 · have h1 : 64 ≤ g := by omega
   clear h
   go_enter Tryz.func23, Tryz.ntmps23
   go_wp2_with fail
   rw [Hr.out]
   refine bodyPost_ret (v := .tuple #[eval2 0 0, .int .i64 10]) (by simp [results, Tryz.results23, go_sem]) rfl ?_
   exact ⟨rfl, hB_4⟩
set_option maxRecDepth 100000 in
theorem t11_find_yes (D : Dk) (L : Pn) (p q p' q' : Pl) (w : World) (hD : IsDk w D p q) (hL : IsPn w L p' q') (hf : D.fit = true) (hfl : L.Fit) (t : Int) (g : Nat) (h : g < 64) :
 Calls Tryz.prog 23 #[dval D p q, pval L p' q', .int .i64 t, .int .i64 g] w fun e w' => e = .returned (.tuple #[eval2 (Pn.tabFind D L t g).1.1 (Pn.tabFind D L t g).1.2, .int .i64 (Pn.tabFind D L t g).2]) ∧ Below w.heap.size w w' := by
 have g0 : (0 : Int) ≤ (g : Int) := by omega
 have g1 : (g : Int) < 64 := by omega
 have hg1 := fun (W : World) (hb : Below w.heap.size w W) => t11_get D L p q p' q' W (hD.below hb) (hL.below hb) hf hfl t ((g : Int) / 16)
 have hg2 := fun (W : World) (hb : Below w.heap.size w W) (T : Int) => t11_get D L p q p' q' W (hD.below hb) (hL.below hb) hf hfl T ((g : Int) % 16)
 have Hw := hid (show Pn.tabFind D L t g = if (Pn.tabGet D L t ((g : Int) / 16)).2 ≠ 0 ∨ (Pn.tabGet D L t ((g : Int) / 16)).1.1 = 0 then ((0, 0), (Pn.tabGet D L t ((g : Int) / 16)).2)
  else if (Pn.tabGet D L t ((g : Int) / 16)).1.1 = 2 then ((0, 0), 14) else Pn.tabGet D L (Pn.tabGet D L t ((g : Int) / 16)).1.2 ((g : Int) % 16) by rw [Pn.tabFind, if_neg (by omega)])
 have hsm := Pn.tabGet_small D L t ((g : Int) / 16)
 generalize Pn.tabGet D L t ((g : Int) / 16) = E at hg1 Hw hsm
 obtain ⟨⟨K, A⟩, er⟩ := E
 simp only at hg1 Hw hsm
 obtain ⟨s1, s2, s3, s4⟩ := hsm
 clear hD hL hf hfl
 obtain ⟨A1, a1⟩ := p
 obtain ⟨A2, a2⟩ := q
 obtain ⟨B1, b1⟩ := p'
 obtain ⟨B2, b2⟩ := q'
 have hB := Below.refl w.heap.size w
 have x := Blk.new w 25 #[.string (bs D.data), .slice A1 D.cache.length a1, .int .i64 D.fuse, .bool D.off, .slice A2 D.bad.length a2]
 have xk := blk5 x
 have hB_1 := hB.alloc hB.size (.cells #[.string (bs D.data), .slice A1 D.cache.length a1, .int .i64 D.fuse, .bool D.off, .slice A2 D.bad.length a2] 25)
 have z := Blk.new (w.alloc (.cells #[.string (bs D.data), .slice A1 D.cache.length a1, .int .i64 D.fuse, .bool D.off, .slice A2 D.bad.length a2] 25)) 67 #[.slice B1 L.targets.length b1, .slice B2 L.data.length b2]
 simp only [World.size_alloc] at z
 have zk := blk2 z
 have hB_2 := hB_1.alloc hB_1.size (.cells #[.slice B1 L.targets.length b1, .slice B2 L.data.length b2] 67)
 have x_3 := x.alloc (.cells #[.slice B1 L.targets.length b1, .slice B2 L.data.length b2] 67)
 have xk_3 := blk5 x_3
 have r := Blk.new ((w.alloc (.cells #[.string (bs D.data), .slice A1 D.cache.length a1, .int .i64 D.fuse, .bool D.off, .slice A2 D.bad.length a2] 25)).alloc (.cells #[.slice B1 L.targets.length b1, .slice B2 L.data.length b2] 67)) 73 #[.int .i64 0, .int .i64 0]
 simp only [World.size_alloc] at r
 have rk := blk2 r
 have rkf := r.frozen
 have hB_4 := hB_2.alloc hB_2.size (.cells #[.int .i64 0, .int .i64 0] 73)
 have x_5 := x_3.alloc (.cells #[.int .i64 0, .int .i64 0] 73)
 have xk_5 := blk5 x_5
 have z_6 := z.alloc (.cells #[.int .i64 0, .int .i64 0] 73)
 have zk_6 := blk2 z_6
 go_enter Tryz.func23, Tryz.ntmps23
 go_wp2_with fail
 go_at_call 62
 refine ((hg1 _ hB_4)).mono ?_
 rintro e w1 ⟨rfl, hb1⟩
 replace hB := bt hB_4 hb1
 replace x := x_5.below hb1 x_5.lt
 replace xk := blk5 x
 replace z := z_6.below hb1 z_6.lt
 replace zk := blk2 z
 replace r := r.below hb1 r.lt
 replace rk := blk2 r
 replace rkf := r.frozen
 clear hB_1 hB_2 xk_3 x_3 hB_4 xk_5 x_5 zk_6 z_6
 have y := Blk.new w1 73 #[.int .i64 K, .int .i64 A]
 have yk := blk2 y
 have hB_7 := hB.alloc hB.size (.cells #[.int .i64 K, .int .i64 A] 73)
 have x_8 := x.alloc (.cells #[.int .i64 K, .int .i64 A] 73)
 have xk_8 := blk5 x_8
 have z_9 := z.alloc (.cells #[.int .i64 K, .int .i64 A] 73)
 have zk_9 := blk2 z_9
 have r_10 := r.alloc (.cells #[.int .i64 K, .int .i64 A] 73)
 have rk_10 := blk2 r_10
 have rkf_10 := r_10.frozen
 by_cases h1 : er = 0
 case neg =>
  have n1 : (er != 0) = true := by simpa using h1
  have Hr := hid (show Pn.tabFind D L t g = ((0, 0), er) by rw [Hw.out, if_pos (.inl h1)])
  clear h1
  have w1l := hB_7.size
  go_wp2_with fail
  rw [Hr.out]
  have yy := blk2 (blk_set2 r_10 (.int .i64 0) (.int .i64 0))
  have b9 := below_set2 hB_7 (g := w.heap.size + 1 + 1) (by first | exact Nat.le_refl _ | (simp; omega) | omega) (.int .i64 0) (.int .i64 0)
  refine bodyPost_ret (v := .tuple #[eval2 0 0, .int .i64 er]) (by simp [results, Tryz.results23, go_sem, yy]) rfl ?_
  exact ⟨rfl, b9⟩
 subst h1
 by_cases h2 : K = 0
 · subst h2
   have Hr := hid (show Pn.tabFind D L t g = ((0, 0), 0) by rw [Hw.out, if_pos (.inr rfl)])
   have w1l := hB_7.size
   go_wp2_with fail
   rw [Hr.out]
   have yy := blk2 (blk_set2 r_10 (.int .i64 0) (.int .i64 0))
   have b9 := below_set2 hB_7 (g := w.heap.size + 1 + 1) (by first | exact Nat.le_refl _ | (simp; omega) | omega) (.int .i64 0) (.int .i64 0)
   refine bodyPost_ret (v := .tuple #[eval2 0 0, .int .i64 0]) (by simp [results, Tryz.results23, go_sem, yy]) rfl ?_
   exact ⟨rfl, b9⟩
 · have n2 : (K == 0) = false := by simpa using h2
   by_cases h3 : K = 2
   · subst h3
     have Hr := hid (show Pn.tabFind D L t g = ((0, 0), 14) by rw [Hw.out, if_neg (by simp), if_pos rfl])
     clear h2
     have w1l := hB_7.size
     go_wp2_with fail
     rw [Hr.out]
     have yy := blk2 (blk_set2 r_10 (.int .i64 0) (.int .i64 0))
     have b9 := below_set2 hB_7 (g := w.heap.size + 1 + 1) (by first | exact Nat.le_refl _ | (simp; omega) | omega) (.int .i64 0) (.int .i64 0)
     refine bodyPost_ret (v := .tuple #[eval2 0 0, .int .i64 14]) (by simp [results, Tryz.results23, go_sem, yy]) rfl ?_
     exact ⟨rfl, b9⟩
   · have n3 : (K == 2) = false := by simpa using h3
     have Hr := hid (show Pn.tabFind D L t g = Pn.tabGet D L A ((g : Int) % 16) by rw [Hw.out, if_neg (by simp [h2]), if_neg h3])
     have hg3 := fun (W : World) (hb : Below w.heap.size w W) => hg2 W hb A
     clear h2 h3 hg2 hg1
     generalize Pn.tabGet D L A ((g : Int) % 16) = E2 at hg3 Hr
     obtain ⟨⟨K2, A2'⟩, er2⟩ := E2
     simp only at hg3
     go_wp2_with fail
     go_at_call 62
     refine ((hg3 _ hB_7)).mono ?_
     rintro e w2 ⟨rfl, hb2⟩
     replace hB := bt hB_7 hb2
     replace x := x_8.below hb2 x_8.lt
     replace xk := blk5 x
     replace z := z_9.below hb2 z_9.lt
     replace zk := blk2 z
     replace r := r_10.below hb2 r_10.lt
     replace rk := blk2 r
     replace rkf := r.frozen
     replace y := y.below hb2 y.lt
     replace yk := blk2 y
     clear hB_7 xk_8 x_8 zk_9 z_9 rk_10 rkf_10 r_10
     have w1l := hB.size
     go_wp2_with fail
     rw [Hr.out]
     have yy := blk2 (blk_set2 r (.int .i64 K2) (.int .i64 A2'))
     have b9 := below_set2 hB (g := w.heap.size + 1 + 1) (by first | exact Nat.le_refl _ | (simp; omega) | omega) (.int .i64 K2) (.int .i64 A2')
     refine bodyPost_ret (v := .tuple #[eval2 K2 A2', .int .i64 er2]) (by simp [results, Tryz.results23, go_sem, yy]) rfl ?_
     exact ⟨rfl, b9⟩
theorem t11_find (D : Dk) (L : Pn) (p q p' q' : Pl) (w : World) (hD : IsDk w D p q) (hL : IsPn w L p' q') (hf : D.fit = true) (hfl : L.Fit) (t g : Int) :
 Calls Tryz.prog 23 #[dval D p q, pval L p' q', .int .i64 t, .int .i64 g] w fun e w' => e = .returned (.tuple #[eval2 (Pn.tabFind D L t g).1.1 (Pn.tabFind D L t g).1.2, .int .i64 (Pn.tabFind D L t g).2]) ∧ Below w.heap.size w w' := by
 by_cases h : g < 0 ∨ 64 ≤ g
 · exact t11_find_no D L p q p' q' w t g h
 · obtain ⟨g, rfl⟩ := Int.eq_ofNat_of_zero_le (show 0 ≤ g by omega)
   exact t11_find_yes D L p q p' q' w hD hL hf hfl t g (by omega)
end Go.Proofs.YtlapjkbefkmohaaGreat
