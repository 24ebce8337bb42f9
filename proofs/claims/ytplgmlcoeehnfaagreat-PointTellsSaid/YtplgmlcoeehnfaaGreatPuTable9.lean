/- Package table: a table that has nothing; a table as another one. -/
import Derived.Test.YtplgmlcoeehnfaaGreatPuTable8
set_option linter.unusedVariables false
namespace Go.Proofs.YtplgmlcoeehnfaaGreat
open Go.RowKit Go.Shelf
attribute [local go_sem] bs_mk bs_append bs_extract bs_size bs_toList bs_get
theorem repeat_zero (c : Nat) : Lib.repeatL [0] c = List.replicate c 0 := by
  induction c with
  | zero => simp [Lib.repeatL]
  | succ c ih => simp [Lib.repeatL, ih, List.replicate_succ]
theorem t_blank1 (X : Pn) (p q : Pl) (i : Nat) (w : World) : Calls Tryz.prog 167 #[pval X p q, .int .i64 i] w fun e w' => e = .returned (.tuple #[.string (bs (List.replicate 64 0)), .int .i64 0]) ∧ Below w.heap.size w w' := by
  have hrep := fun W => Tryz.strings_Repeat (bs [0]) 64 W (by omega) (by rw [bs_size]; simp)
  rw [bs_list, repeat_zero, bs_mk, show ((64 : Nat) : Int) = 64 from rfl] at hrep
  generalize List.replicate 64 (0 : UInt8) = Z at *
  have hB := Below.refl w.heap.size w
  have x := Blk.new w 28 #[.slice p.a X.targets.length p.c, .slice q.a X.data.length q.c]
  have xk := blk2 x
  have hB_1 := hB.alloc hB.size (.cells #[.slice p.a X.targets.length p.c, .slice q.a X.data.length q.c] 28)
  go_enter Tryz.func167, Tryz.ntmps167
  go_wp2_with fail
  go_at_call 130
  refine ((hrep _)).mono ?_
  rintro e w1 ⟨rfl, hb1⟩
  replace hB := bt hB_1 hb1
  replace x := x.below hb1 x.lt
  replace xk := blk2 x
  clear hB_1
  go_wp2_with fail
  go_ret2
  exact ⟨rfl, hB⟩
theorem t_blank (L : Pn) (p q : Pl) (w : World) (hL : IsPn w L p q) (hfl : L.Fit) (t : Int) :
    Calls Tryz.prog 111 #[pval L p q, .int .i64 t] w fun e w' => RetPn w.heap.size L p q (Pn.tabBlank L t) e w' ∧ Below w.heap.size w w' := by
  have Hz := hid (fun (W : World) (hb : Below w.heap.size w W) => hL.below hb)
  have Hap := hid (fun g (hg : w.heap.size ≤ g) => hL.apart hg)
  by_cases h : t < 0 ∨ 256 ≤ t
  · have ho := fun W => t_outside_out t h W
    have Hr := hid (show Pn.tabBlank L t = (L, 10) by rw [Pn.tabBlank, if_pos h])
    clear hL h
    obtain ⟨A1, a1⟩ := p
    obtain ⟨A2, a2⟩ := q
    have hB := Below.refl w.heap.size w
    have x := Blk.new w 28 #[.slice A1 L.targets.length a1, .slice A2 L.data.length a2]
    have xk := blk2 x
    have hB_1 := hB.alloc hB.size (.cells #[.slice A1 L.targets.length a1, .slice A2 L.data.length a2] 28)
    have r := Blk.new (w.alloc (.cells #[.slice A1 L.targets.length a1, .slice A2 L.data.length a2] 28)) 28 #[.slice none 0 0, .slice none 0 0]
    simp only [World.size_alloc] at r
    have rk := blk2 r
    have rkf := r.frozen
    have hB_2 := hB_1.alloc hB_1.size (.cells #[.slice none 0 0, .slice none 0 0] 28)
    have x_3 := x.alloc (.cells #[.slice none 0 0, .slice none 0 0] 28)
    have xk_3 := blk2 x_3
    go_enter Tryz.func111, Tryz.ntmps111
    go_wp2_with fail
    go_at_call 165
    refine ((ho _)).mono ?_
    rintro e w1 ⟨rfl, hb1⟩
    replace hB := bt hB_2 hb1
    replace x := x_3.below hb1 x_3.lt
    replace xk := blk2 x
    replace r := r.below hb1 r.lt
    replace rk := blk2 r
    replace rkf := r.frozen
    clear hB_1 hB_2 xk_3 x_3
    have rl : w.heap.size + 1 < w1.heap.size := r.lt
    go_wp2_with fail
    rw [Hr.out]
    have yy := blk2 (blk_set2 r (.slice A1 L.targets.length a1) (.slice A2 L.data.length a2))
    have b9 := below_set2 hB (g := w.heap.size + 1) (by omega) (.slice A1 L.targets.length a1) (.slice A2 L.data.length a2)
    refine bodyPost_ret (v := .tuple #[pval L ⟨A1, a1⟩ ⟨A2, a2⟩, .int .i64 10]) (by simp [results, Tryz.results111, go_sem, yy]) rfl ?_
    exact ⟨⟨_, _, rfl, Hz.out _ b9, fun _ _ h => h⟩, b9⟩
  · have ho := fun W => t_outside_in t (by omega) (by omega) W
    have Hr := hid (show Pn.tabBlank L t = Pn.set2 L t (fun _ _ => (List.replicate 64 0, 0)) by rw [Pn.tabBlank, if_neg h])
    have hf := fun (W : World) (hb : Below w.heap.size w W) => t_fill_blank L p q W (hL.below hb) hfl t (by omega) (fun _ _ => (List.replicate 64 0, 0)) (fun W _ X p q _ _ i _ => t_blank1 X p q i W) (fun _ _ _ _ => by simp)
    generalize Pn.set2 L t (fun _ _ => (List.replicate 64 0, 0)) = S at hf Hr
    obtain ⟨X, er⟩ := S
    clear hL h
    obtain ⟨A1, a1⟩ := p
    obtain ⟨A2, a2⟩ := q
    have hB := Below.refl w.heap.size w
    have x := Blk.new w 28 #[.slice A1 L.targets.length a1, .slice A2 L.data.length a2]
    have xk := blk2 x
    have hB_1 := hB.alloc hB.size (.cells #[.slice A1 L.targets.length a1, .slice A2 L.data.length a2] 28)
    have r := Blk.new (w.alloc (.cells #[.slice A1 L.targets.length a1, .slice A2 L.data.length a2] 28)) 28 #[.slice none 0 0, .slice none 0 0]
    simp only [World.size_alloc] at r
    have rk := blk2 r
    have rkf := r.frozen
    have hB_2 := hB_1.alloc hB_1.size (.cells #[.slice none 0 0, .slice none 0 0] 28)
    have x_3 := x.alloc (.cells #[.slice none 0 0, .slice none 0 0] 28)
    have xk_3 := blk2 x_3
    go_enter Tryz.func111, Tryz.ntmps111
    go_wp2_with fail
    go_at_call 165
    refine ((ho _)).mono ?_
    rintro e w1 ⟨rfl, hb1⟩
    replace hB := bt hB_2 hb1
    replace x := x_3.below hb1 x_3.lt
    replace xk := blk2 x
    replace r := r.below hb1 r.lt
    replace rk := blk2 r
    replace rkf := r.frozen
    clear hB_1 hB_2 xk_3 x_3
    have rl1 : w.heap.size + 1 < w1.heap.size := r.lt
    go_wp2_with fail
    go_at_call 166
    refine ((hf _ hB)).mono ?_
    rintro e w2 ⟨⟨p3, q3, rfl, i3, o3⟩, hb2⟩
    replace hB := bt hB hb2
    replace x := x.below hb2 x.lt
    replace xk := blk2 x
    replace r := r.below hb2 r.lt
    replace rk := blk2 r
    replace rkf := r.frozen
    have rl : w.heap.size + 1 < w2.heap.size := r.lt
    go_wp2_with fail
    rw [Hr.out]
    have ho := o3 (w.heap.size + 1) rl1 (Hap.out _ (by omega))
    have yy := blk2 (blk_set2 r (.slice p3.a X.targets.length p3.c) (.slice q3.a X.data.length q3.c))
    have b9 := below_set2 hB (g := w.heap.size + 1) (by omega) (.slice p3.a X.targets.length p3.c) (.slice q3.a X.data.length q3.c)
    refine bodyPost_ret (v := .tuple #[pval X p3 q3, .int .i64 er]) (by simp [results, Tryz.results111, go_sem, yy]) rfl ?_
    exact ⟨⟨_, _, rfl, i3.off2 ho _ _, fun g hg h => o3 g (by omega) h⟩, b9⟩
theorem ext1 {w : World} {g : Nat} {t : TypeId} {a : Value} (h : Blk w g t #[a]) (x : Ext w) : x.world.cell? ⟨g, 0, none⟩ = some a := x.cell (blk1 h)
theorem t_copy1 (D : Dk) (p q : Pl) (f : Int) (hf : 0 ≤ f ∧ f < 256) (g1 g2 : Nat) (X : Pn) (p' q' : Pl) (w : World) (hD : IsDk w D p q) (hX : IsPn w X p' q') (hfd : D.fit = true) (hXf : X.Fit) (i : Nat) (hi : i < 2)
    (b1 : Blk w g1 25 #[.string (bs D.data), .slice p.a D.cache.length p.c, .int .i64 D.fuse, .bool D.off, .slice q.a D.bad.length q.c]) (b2 : Blk w g2 3 #[.int .i64 f]) :
    Calls Tryz.prog 170 #[pval X p' q', .int .i64 i, .pointer (some ⟨g1, 0, none⟩), .pointer (some ⟨g2, 0, none⟩)] w fun e w' => e = .returned (.tuple #[.string (bs (Pn.look D X (96 + 2 * f + i)).1), .int .i64 (Pn.look D X (96 + 2 * f + i)).2]) ∧ Below w.heap.size w w' := by
  have i1 : (i : Int) < 2 := by omega
  have hlk := fun (W : World) (hb : Below w.heap.size w W) => pl_look D X p q p' q' W (hD.below hb) (hX.below hb) (96 + 2 * f + i) ((Dk.fit_parts hfd).2.2.1) (by have := hXf.2.1; omega) hXf.1
  generalize Pn.look D X (96 + 2 * f + i) = S at *
  obtain ⟨s, er⟩ := S
  simp only at hlk
  obtain ⟨A1, a1⟩ := p
  obtain ⟨A2, a2⟩ := q
  obtain ⟨B1, c1⟩ := p'
  obtain ⟨B2, c2⟩ := q'
  have f0 := hf.1
  have f1 := hf.2
  clear hD hX hfd hXf hf
  have hB := Below.refl w.heap.size w
  have bk1 := blk5 b1
  have bk2 := blk1 b2
  have x := Blk.new w 28 #[.slice B1 X.targets.length c1, .slice B2 X.data.length c2]
  have xk := blk2 x
  have hB_1 := hB.alloc hB.size (.cells #[.slice B1 X.targets.length c1, .slice B2 X.data.length c2] 28)
  have b1_2 := b1.alloc (.cells #[.slice B1 X.targets.length c1, .slice B2 X.data.length c2] 28)
  have bk1_2 := blk5 b1_2
  have b2_3 := b2.alloc (.cells #[.slice B1 X.targets.length c1, .slice B2 X.data.length c2] 28)
  have bk2_3 := blk1 b2_3
  go_enter Tryz.func170, Tryz.ntmps170
  go_wp2_with fail
  generalize (w.alloc (.cells #[.slice B1 X.targets.length c1, .slice B2 X.data.length c2] 28)) = V at hB_1 b1_2 bk1_2 b2_3 bk2_3 x xk ⊢
  clear hB b1 b2 bk1 bk2
  have hB := hB_1
  have b1 := b1_2
  have bk1 := bk1_2
  have b2 := b2_3
  have bk2 := bk2_3
  clear hB_1 b1_2 bk1_2 b2_3 bk2_3
  have hE := s_at_ext (V := V) f (by omega) (by omega)
  have hE2 := fun (e : Ext V) => hlk e.world (bt hB e.below)
  have hw1 := i64w (x := 96 + 2 * f + (i : Int)) (by omega)
  have K1 := ext2 x
  have K2 := ext5 b1
  have K3 := ext1 b2
  clear hlk bk1 bk2 xk
  refine wp_region_ext mixed (by kernel_rfl) ?_
  repeat (go_big_quiet_step (((first | (go_at_call 171; with_reducible exact ext_of (hE _)) | (go_at_call 157; with_reducible exact ext_of (hE2 _))))))
  refine wpQuiet_nil ?_
  rintro w2 ⟨pq_, hpq_⟩
  have hb2 := pq_.below
  rw [← hpq_] at hb2
  clear hpq_ pq_
  go_wp2_with fail
  go_ret2
  exact ⟨rfl, bt hB hb2⟩
theorem t_copy_no (D : Dk) (L : Pn) (p q p' q' : Pl) (w : World) (hL : IsPn w L p' q') (f t : Int) (h : (f < 0 ∨ 256 ≤ f) ∨ (t < 0 ∨ 256 ≤ t)) :
    Calls Tryz.prog 114 #[dval D p q, pval L p' q', .int .i64 f, .int .i64 t] w fun e w' => RetPn w.heap.size L p' q' (Pn.tabCopy D L f t) e w' ∧ Below w.heap.size w w' := by
  have Hz := hid (fun (W : World) (hb : Below w.heap.size w W) => hL.below hb)
  have Hr := hid (show Pn.tabCopy D L f t = (L, 10) by rw [Pn.tabCopy, if_pos h])
  obtain ⟨A1, a1⟩ := p
  obtain ⟨A2, a2⟩ := q
  obtain ⟨B1, b1⟩ := p'
  obtain ⟨B2, b2⟩ := q'
  have hB := Below.refl w.heap.size w
  have x := Blk.new w 25 #[.string (bs D.data), .slice A1 D.cache.length a1, .int .i64 D.fuse, .bool D.off, .slice A2 D.bad.length a2]
  have xk := blk5 x
  have hB_1 := hB.alloc hB.size (.cells #[.string (bs D.data), .slice A1 D.cache.length a1, .int .i64 D.fuse, .bool D.off, .slice A2 D.bad.length a2] 25)
  have z := Blk.new (w.alloc (.cells #[.string (bs D.data), .slice A1 D.cache.length a1, .int .i64 D.fuse, .bool D.off, .slice A2 D.bad.length a2] 25)) 28 #[.slice B1 L.targets.length b1, .slice B2 L.data.length b2]
  simp only [World.size_alloc] at z
  have zk := blk2 z
  have hB_2 := hB_1.alloc hB_1.size (.cells #[.slice B1 L.targets.length b1, .slice B2 L.data.length b2] 28)
  have x_3 := x.alloc (.cells #[.slice B1 L.targets.length b1, .slice B2 L.data.length b2] 28)
  have xk_3 := blk5 x_3
  have u := Blk.new ((w.alloc (.cells #[.string (bs D.data), .slice A1 D.cache.length a1, .int .i64 D.fuse, .bool D.off, .slice A2 D.bad.length a2] 25)).alloc (.cells #[.slice B1 L.targets.length b1, .slice B2 L.data.length b2] 28)) 3 #[.int .i64 f]
  simp only [World.size_alloc] at u
  have uk := blk1 u
  have hB_4 := hB_2.alloc hB_2.size (.cells #[.int .i64 f] 3)
  have x_5 := x_3.alloc (.cells #[.int .i64 f] 3)
  have xk_5 := blk5 x_5
  have z_6 := z.alloc (.cells #[.int .i64 f] 3)
  have zk_6 := blk2 z_6
  have r := Blk.new (((w.alloc (.cells #[.string (bs D.data), .slice A1 D.cache.length a1, .int .i64 D.fuse, .bool D.off, .slice A2 D.bad.length a2] 25)).alloc (.cells #[.slice B1 L.targets.length b1, .slice B2 L.data.length b2] 28)).alloc (.cells #[.int .i64 f] 3)) 28 #[.slice none 0 0, .slice none 0 0]
  simp only [World.size_alloc] at r
  have rk := blk2 r
  have rkf := r.frozen
  have hB_7 := hB_4.alloc hB_4.size (.cells #[.slice none 0 0, .slice none 0 0] 28)
  have x_8 := x_5.alloc (.cells #[.slice none 0 0, .slice none 0 0] 28)
  have xk_8 := blk5 x_8
  have z_9 := z_6.alloc (.cells #[.slice none 0 0, .slice none 0 0] 28)
  have zk_9 := blk2 z_9
  have u_10 := u.alloc (.cells #[.slice none 0 0, .slice none 0 0] 28)
  have uk_10 := blk1 u_10
  by_cases h1 : f < 0 ∨ 256 ≤ f
  · have ho := fun W => t_outside_out f h1 W
    clear hL h h1
    go_enter Tryz.func114, Tryz.ntmps114
    go_wp2_with fail
    go_at_call 165
    refine ((ho _)).mono ?_
    rintro e w1 ⟨rfl, hb1⟩
    replace hB := bt hB_7 hb1
    replace x := x_8.below hb1 x_8.lt
    replace xk := blk5 x
    replace z := z_9.below hb1 z_9.lt
    replace zk := blk2 z
    replace u := u_10.below hb1 u_10.lt
    replace uk := blk1 u
    replace r := r.below hb1 r.lt
    replace rk := blk2 r
    replace rkf := r.frozen
    clear hB_1 hB_2 xk_3 x_3 hB_4 xk_5 x_5 zk_6 z_6 hB_7 xk_8 x_8 zk_9 z_9 uk_10 u_10
    have rl : w.heap.size + 1 + 1 + 1 < w1.heap.size := r.lt
    go_wp2_with fail
    rw [Hr.out]
    have yy := blk2 (blk_set2 r (.slice B1 L.targets.length b1) (.slice B2 L.data.length b2))
    have b9 := below_set2 hB (g := w.heap.size + 1 + 1 + 1) (by omega) (.slice B1 L.targets.length b1) (.slice B2 L.data.length b2)
    refine bodyPost_ret (v := .tuple #[pval L ⟨B1, b1⟩ ⟨B2, b2⟩, .int .i64 10]) (by simp [results, Tryz.results114, go_sem, yy]) rfl ?_
    exact ⟨⟨_, _, rfl, Hz.out _ b9, fun _ _ h => h⟩, b9⟩
  · have ho := fun W => t_outside_in f (by omega) (by omega) W
    have ho2 := fun W => t_outside_out t (h.resolve_left h1) W
    clear hL h h1
    go_enter Tryz.func114, Tryz.ntmps114
    go_wp2_with fail
    go_at_call 165
    refine ((ho _)).mono ?_
    rintro e w1 ⟨rfl, hb1⟩
    replace hB := bt hB_7 hb1
    replace x := x_8.below hb1 x_8.lt
    replace xk := blk5 x
    replace z := z_9.below hb1 z_9.lt
    replace zk := blk2 z
    replace u := u_10.below hb1 u_10.lt
    replace uk := blk1 u
    replace r := r.below hb1 r.lt
    replace rk := blk2 r
    replace rkf := r.frozen
    clear hB_1 hB_2 xk_3 x_3 hB_4 xk_5 x_5 zk_6 z_6 hB_7 xk_8 x_8 zk_9 z_9 uk_10 u_10
    go_wp2_with fail
    go_at_call 165
    refine ((ho2 _)).mono ?_
    rintro e w2 ⟨rfl, hb2⟩
    replace hB := bt hB hb2
    replace x := x.below hb2 x.lt
    replace xk := blk5 x
    replace z := z.below hb2 z.lt
    replace zk := blk2 z
    replace u := u.below hb2 u.lt
    replace uk := blk1 u
    replace r := r.below hb2 r.lt
    replace rk := blk2 r
    replace rkf := r.frozen
    have rl : w.heap.size + 1 + 1 + 1 < w2.heap.size := r.lt
    go_wp2_with fail
    rw [Hr.out]
    have yy := blk2 (blk_set2 r (.slice B1 L.targets.length b1) (.slice B2 L.data.length b2))
    have b9 := below_set2 hB (g := w.heap.size + 1 + 1 + 1) (by omega) (.slice B1 L.targets.length b1) (.slice B2 L.data.length b2)
    refine bodyPost_ret (v := .tuple #[pval L ⟨B1, b1⟩ ⟨B2, b2⟩, .int .i64 10]) (by simp [results, Tryz.results114, go_sem, yy]) rfl ?_
    exact ⟨⟨_, _, rfl, Hz.out _ b9, fun _ _ h => h⟩, b9⟩
set_option maxRecDepth 100000 in
theorem t_copy_yes (D : Dk) (L : Pn) (p q p' q' : Pl) (w : World) (hD : IsDk w D p q) (hL : IsPn w L p' q') (hf : D.fit = true) (hfl : L.Fit) (f t : Int) (h : ¬ ((f < 0 ∨ 256 ≤ f) ∨ (t < 0 ∨ 256 ≤ t))) :
    Calls Tryz.prog 114 #[dval D p q, pval L p' q', .int .i64 f, .int .i64 t] w fun e w' => RetPn w.heap.size L p' q' (Pn.tabCopy D L f t) e w' ∧ Below w.heap.size w w' := by
  have Hap := hid (fun g (hg : w.heap.size ≤ g) => hL.apart hg)
  have Hr := hid (show Pn.tabCopy D L f t = Pn.set2 L t (fun Q i => Pn.look D Q (96 + 2 * f + i)) by rw [Pn.tabCopy, if_neg h])
  have ho := fun W => t_outside_in f (by omega) (by omega) W
  have ho2 := fun W => t_outside_in t (by omega) (by omega) W
  have hfi := fun (W : World) (hb : Below w.heap.size w W) (g1 g2 : Nat) (b1 : Blk W g1 25 #[.string (bs D.data), .slice p.a D.cache.length p.c, .int .i64 D.fuse, .bool D.off, .slice q.a D.bad.length q.c]) (b2 : Blk W g2 3 #[.int .i64 f]) =>
    t_fill_copy L p' q' W (hL.below hb) hfl t (by omega) (fun Q i => Pn.look D Q (96 + 2 * f + i)) g1 g2 (fun V hV X pp qq hX hXf i hi => t_copy1 D p q f (by omega) g1 g2 X pp qq V (hD.below (bt hb hV)) hX hf hXf i hi (b1.below hV b1.lt) (b2.below hV b2.lt))
      (fun X i hX _ => look_len hf hX _)
  generalize Pn.set2 L t (fun Q i => Pn.look D Q (96 + 2 * f + i)) = S at hfi Hr
  obtain ⟨X, er⟩ := S
  clear hL h hD hf hfl
  obtain ⟨A1, a1⟩ := p
  obtain ⟨A2, a2⟩ := q
  obtain ⟨B1, b1⟩ := p'
  obtain ⟨B2, b2⟩ := q'
  have hB := Below.refl w.heap.size w
  have x := Blk.new w 25 #[.string (bs D.data), .slice A1 D.cache.length a1, .int .i64 D.fuse, .bool D.off, .slice A2 D.bad.length a2]
  have xk := blk5 x
  have hB_1 := hB.alloc hB.size (.cells #[.string (bs D.data), .slice A1 D.cache.length a1, .int .i64 D.fuse, .bool D.off, .slice A2 D.bad.length a2] 25)
  have z := Blk.new (w.alloc (.cells #[.string (bs D.data), .slice A1 D.cache.length a1, .int .i64 D.fuse, .bool D.off, .slice A2 D.bad.length a2] 25)) 28 #[.slice B1 L.targets.length b1, .slice B2 L.data.length b2]
  simp only [World.size_alloc] at z
  have zk := blk2 z
  have hB_2 := hB_1.alloc hB_1.size (.cells #[.slice B1 L.targets.length b1, .slice B2 L.data.length b2] 28)
  have x_3 := x.alloc (.cells #[.slice B1 L.targets.length b1, .slice B2 L.data.length b2] 28)
  have xk_3 := blk5 x_3
  have u := Blk.new ((w.alloc (.cells #[.string (bs D.data), .slice A1 D.cache.length a1, .int .i64 D.fuse, .bool D.off, .slice A2 D.bad.length a2] 25)).alloc (.cells #[.slice B1 L.targets.length b1, .slice B2 L.data.length b2] 28)) 3 #[.int .i64 f]
  simp only [World.size_alloc] at u
  have uk := blk1 u
  have hB_4 := hB_2.alloc hB_2.size (.cells #[.int .i64 f] 3)
  have x_5 := x_3.alloc (.cells #[.int .i64 f] 3)
  have xk_5 := blk5 x_5
  have z_6 := z.alloc (.cells #[.int .i64 f] 3)
  have zk_6 := blk2 z_6
  have r := Blk.new (((w.alloc (.cells #[.string (bs D.data), .slice A1 D.cache.length a1, .int .i64 D.fuse, .bool D.off, .slice A2 D.bad.length a2] 25)).alloc (.cells #[.slice B1 L.targets.length b1, .slice B2 L.data.length b2] 28)).alloc (.cells #[.int .i64 f] 3)) 28 #[.slice none 0 0, .slice none 0 0]
  simp only [World.size_alloc] at r
  have rk := blk2 r
  have rkf := r.frozen
  have hB_7 := hB_4.alloc hB_4.size (.cells #[.slice none 0 0, .slice none 0 0] 28)
  have x_8 := x_5.alloc (.cells #[.slice none 0 0, .slice none 0 0] 28)
  have xk_8 := blk5 x_8
  have z_9 := z_6.alloc (.cells #[.slice none 0 0, .slice none 0 0] 28)
  have zk_9 := blk2 z_9
  have u_10 := u.alloc (.cells #[.slice none 0 0, .slice none 0 0] 28)
  have uk_10 := blk1 u_10
  go_enter Tryz.func114, Tryz.ntmps114
  go_wp2_with fail
  go_at_call 165
  refine ((ho _)).mono ?_
  rintro e w1 ⟨rfl, hb1⟩
  replace hB := bt hB_7 hb1
  replace x := x_8.below hb1 x_8.lt
  replace xk := blk5 x
  replace z := z_9.below hb1 z_9.lt
  replace zk := blk2 z
  replace u := u_10.below hb1 u_10.lt
  replace uk := blk1 u
  replace r := r.below hb1 r.lt
  replace rk := blk2 r
  replace rkf := r.frozen
  clear hB_1 hB_2 xk_3 x_3 hB_4 xk_5 x_5 zk_6 z_6 hB_7 xk_8 x_8 zk_9 z_9 uk_10 u_10
  go_wp2_with fail
  go_at_call 165
  refine ((ho2 _)).mono ?_
  rintro e w2 ⟨rfl, hb2⟩
  replace hB := bt hB hb2
  replace x := x.below hb2 x.lt
  replace xk := blk5 x
  replace z := z.below hb2 z.lt
  replace zk := blk2 z
  replace u := u.below hb2 u.lt
  replace uk := blk1 u
  replace r := r.below hb2 r.lt
  replace rk := blk2 r
  replace rkf := r.frozen
  have rl1 : w.heap.size + 1 + 1 + 1 < w2.heap.size := r.lt
  go_wp2_with fail
  go_at_call 166
  refine ((hfi _ hB _ _ x u)).mono ?_
  rintro e w3 ⟨⟨p3, q3, rfl, i3, o3⟩, hb3⟩
  replace hB := bt hB hb3
  replace x := x.below hb3 x.lt
  replace xk := blk5 x
  replace z := z.below hb3 z.lt
  replace zk := blk2 z
  replace u := u.below hb3 u.lt
  replace uk := blk1 u
  replace r := r.below hb3 r.lt
  replace rk := blk2 r
  replace rkf := r.frozen
  have rl : w.heap.size + 1 + 1 + 1 < w3.heap.size := r.lt
  go_wp2_with fail
  rw [Hr.out]
  have ho := o3 (w.heap.size + 1 + 1 + 1) rl1 (Hap.out _ (by omega))
  have yy := blk2 (blk_set2 r (.slice p3.a X.targets.length p3.c) (.slice q3.a X.data.length q3.c))
  have b9 := below_set2 hB (g := w.heap.size + 1 + 1 + 1) (by omega) (.slice p3.a X.targets.length p3.c) (.slice q3.a X.data.length q3.c)
  refine bodyPost_ret (v := .tuple #[pval X p3 q3, .int .i64 er]) (by simp [results, Tryz.results114, go_sem, yy]) rfl ?_
  exact ⟨⟨_, _, rfl, i3.off2 ho _ _, fun g hg h => o3 g (by omega) h⟩, b9⟩
theorem t_copy (D : Dk) (L : Pn) (p q p' q' : Pl) (w : World) (hD : IsDk w D p q) (hL : IsPn w L p' q') (hf : D.fit = true) (hfl : L.Fit) (f t : Int) :
    Calls Tryz.prog 114 #[dval D p q, pval L p' q', .int .i64 f, .int .i64 t] w fun e w' => RetPn w.heap.size L p' q' (Pn.tabCopy D L f t) e w' ∧ Below w.heap.size w w' := by
  by_cases h : (f < 0 ∨ 256 ≤ f) ∨ (t < 0 ∨ 256 ≤ t)
  · exact t_copy_no D L p q p' q' w hL f t h
  · exact t_copy_yes D L p q p' q' w hD hL hf hfl f t h
end Go.Proofs.YtplgmlcoeehnfaaGreat
