/- Package cofferdamref07: a plan that is made to last. -/
import Derived.Test.YtlapjkbefkmohaaGreatSdTxn7
import Derived.Test.YtlapjkbefkmohaaGreatSdLay5
set_option linter.unusedVariables false
namespace Go.Proofs.YtlapjkbefkmohaaGreat
open Go.RowKit Go.Shelf
attribute [local go_sem] bs_mk bs_append bs_extract bs_size bs_toList bs_get
theorem r7_first (w : World) : Calls Tryz.prog 91 #[] w fun e w' => e = .returned (.int .i64 6) ∧ Below w.heap.size w w' := by
 go_enter Tryz.func91, Tryz.ntmps91
 go_wp2_with fail
 go_at_call 99
 refine (r4_journal _).mono ?_
 rintro e w1 ⟨rfl, hb⟩
 go_wp2_with fail
 go_ret
 exact ⟨rfl, hb⟩
theorem Cells.off5 {w : World} {A : Option Addr} {cs : List Value} (h : Cells w A cs) {g : Nat} (ho : Off g A cs.length) (v0 v1 v2 v3 v4 : Value) :
 Cells (((((w.setCell ⟨g, 0, none⟩ v0).setCell ⟨g, 1, none⟩ v1).setCell ⟨g, 2, none⟩ v2).setCell ⟨g, 3, none⟩ v3).setCell ⟨g, 4, none⟩ v4) A cs :=
 ((((h.off (p := ⟨g, 0, none⟩) ho List.length_eq_zero_iff.1 v0).off (p := ⟨g, 1, none⟩) ho List.length_eq_zero_iff.1 v1).off (p := ⟨g, 2, none⟩) ho List.length_eq_zero_iff.1 v2).off (p := ⟨g, 3, none⟩) ho List.length_eq_zero_iff.1 v3).off (p := ⟨g, 4, none⟩) ho List.length_eq_zero_iff.1 v4
set_option maxRecDepth 100000 in
set_option maxHeartbeats 1000000 in
theorem r7_commit_none (D : Dk) (j : Jr) (L : Pn) (p q p' q' : Pl) (w : World) (hD : IsDk w D p q) (h0 : L.targets = []) :
 Calls Tryz.prog 73 #[dval D p q, jval j, pval L p' q'] w fun e w' => RetJr w.heap.size D p q (jrCommit D j L) e w' ∧ Below w.heap.size w w' := by
 have Hw := hid (show jrCommit D j L = (D, j, 0) by unfold jrCommit; rw [if_pos h0])
 have hl' : L.targets.length = 0 := by rw [h0]; rfl
 have hap := hD.apart (Nat.le_refl _)
 have HD := hid (fun (W : World) (hb : Below w.heap.size w W) => (hD.below hb : IsDk W D p q))
 clear hD h0
 obtain ⟨A1, a1⟩ := p
 obtain ⟨A2, a2⟩ := q
 obtain ⟨B1, b1⟩ := p'
 obtain ⟨B2, b2⟩ := q'
 obtain ⟨sj, pj⟩ := j
 have hB := Below.refl w.heap.size w
 have x := Blk.new w 25 #[.string (bs D.data), .slice A1 D.cache.length a1, .int .i64 D.fuse, .bool D.off, .slice A2 D.bad.length a2]
 have xk := blk5 x
 have hB_1 := hB.alloc hB.size (.cells #[.string (bs D.data), .slice A1 D.cache.length a1, .int .i64 D.fuse, .bool D.off, .slice A2 D.bad.length a2] 25)
 have y := Blk.new (w.alloc (.cells #[.string (bs D.data), .slice A1 D.cache.length a1, .int .i64 D.fuse, .bool D.off, .slice A2 D.bad.length a2] 25)) 30 #[.int .u64 sj, .int .i64 pj]
 simp only [World.size_alloc] at y
 have yk := blk2 y
 have hB_2 := hB_1.alloc hB_1.size (.cells #[.int .u64 sj, .int .i64 pj] 30)
 have x_3 := x.alloc (.cells #[.int .u64 sj, .int .i64 pj] 30)
 have xk_3 := blk5 x_3
 have z := Blk.new ((w.alloc (.cells #[.string (bs D.data), .slice A1 D.cache.length a1, .int .i64 D.fuse, .bool D.off, .slice A2 D.bad.length a2] 25)).alloc (.cells #[.int .u64 sj, .int .i64 pj] 30)) 67 #[.slice B1 L.targets.length b1, .slice B2 L.data.length b2]
 simp only [World.size_alloc] at z
 have zk := blk2 z
 have hB_4 := hB_2.alloc hB_2.size (.cells #[.slice B1 L.targets.length b1, .slice B2 L.data.length b2] 67)
 have x_5 := x_3.alloc (.cells #[.slice B1 L.targets.length b1, .slice B2 L.data.length b2] 67)
 have xk_5 := blk5 x_5
 have y_6 := y.alloc (.cells #[.slice B1 L.targets.length b1, .slice B2 L.data.length b2] 67)
 have yk_6 := blk2 y_6
 have r := Blk.new (((w.alloc (.cells #[.string (bs D.data), .slice A1 D.cache.length a1, .int .i64 D.fuse, .bool D.off, .slice A2 D.bad.length a2] 25)).alloc (.cells #[.int .u64 sj, .int .i64 pj] 30)).alloc (.cells #[.slice B1 L.targets.length b1, .slice B2 L.data.length b2] 67)) 25 #[.string (bs []), .slice none 0 0, .int .i64 0, .bool false, .slice none 0 0]
 simp only [World.size_alloc] at r
 have rk := blk5 r
 have rkf := r.frozen
 have hB_7 := hB_4.alloc hB_4.size (.cells #[.string (bs []), .slice none 0 0, .int .i64 0, .bool false, .slice none 0 0] 25)
 have x_8 := x_5.alloc (.cells #[.string (bs []), .slice none 0 0, .int .i64 0, .bool false, .slice none 0 0] 25)
 have xk_8 := blk5 x_8
 have y_9 := y_6.alloc (.cells #[.string (bs []), .slice none 0 0, .int .i64 0, .bool false, .slice none 0 0] 25)
 have yk_9 := blk2 y_9
 have z_10 := z.alloc (.cells #[.string (bs []), .slice none 0 0, .int .i64 0, .bool false, .slice none 0 0] 25)
 have zk_10 := blk2 z_10
 have s := Blk.new ((((w.alloc (.cells #[.string (bs D.data), .slice A1 D.cache.length a1, .int .i64 D.fuse, .bool D.off, .slice A2 D.bad.length a2] 25)).alloc (.cells #[.int .u64 sj, .int .i64 pj] 30)).alloc (.cells #[.slice B1 L.targets.length b1, .slice B2 L.data.length b2] 67)).alloc (.cells #[.string (bs []), .slice none 0 0, .int .i64 0, .bool false, .slice none 0 0] 25)) 30 #[.int .u64 0, .int .i64 0]
 simp only [World.size_alloc] at s
 have sk := blk2 s
 have skf := s.frozen
 have hB_11 := hB_7.alloc hB_7.size (.cells #[.int .u64 0, .int .i64 0] 30)
 have x_12 := x_8.alloc (.cells #[.int .u64 0, .int .i64 0] 30)
 have xk_12 := blk5 x_12
 have y_13 := y_9.alloc (.cells #[.int .u64 0, .int .i64 0] 30)
 have yk_13 := blk2 y_13
 have z_14 := z_10.alloc (.cells #[.int .u64 0, .int .i64 0] 30)
 have zk_14 := blk2 z_14
 have r_15 := r.alloc (.cells #[.int .u64 0, .int .i64 0] 30)
 have rk_15 := blk5 r_15
 have rkf_15 := r_15.frozen
 go_enter Tryz.func73, Tryz.ntmps73
 go_wp2_with fail
 go_region
 go_wp2_with fail
 refine bodyPost_ret (v := .tuple #[dval D ⟨A1, a1⟩ ⟨A2, a2⟩, jval ⟨sj, pj⟩, .int .i64 0]) (by simp [results, Tryz.results73, go_sem]) rfl ?_
 refine ⟨⟨_, _, by rw [Hw.out], ?_, ?_⟩, below_five _ _ _ _ _ _⟩
 · rw [Hw.out]; exact HD.out _ (below_five _ _ _ _ _ _)
 · rw [Hw.out]; exact fun _ _ h => h
set_option maxRecDepth 100000 in
set_option maxHeartbeats 1000000 in
theorem r7_commit_full (D : Dk) (j : Jr) (L : Pn) (p q p' q' : Pl) (w : World) (hD : IsDk w D p q) (h0 : L.targets ≠ []) (hl : L.targets.length ≤ 24) (h1 : 4611686018427387904 ≤ j.seq) (h2 : j.seq < 18446744073709551616) :
 Calls Tryz.prog 73 #[dval D p q, jval j, pval L p' q'] w fun e w' => RetJr w.heap.size D p q (jrCommit D j L) e w' ∧ Below w.heap.size w w' := by
 have Hw := hid (show jrCommit D j L = (D, j, 10) by unfold jrCommit; rw [if_neg h0, if_pos h1])
 have hl1 := List.length_pos_iff.2 h0
 have hl' : ((L.targets.length : Int) == 0) = false := by rw [beq_eq_false_iff_ne]; omega
 have HD := hid (fun (W : World) (hb : Below w.heap.size w W) => (hD.below hb : IsDk W D p q))
 have g1 : (4611686018427387904 : Int) ≤ (j.seq : Int) := by omega
 clear hD h0
 obtain ⟨A1, a1⟩ := p
 obtain ⟨A2, a2⟩ := q
 obtain ⟨B1, b1⟩ := p'
 obtain ⟨B2, b2⟩ := q'
 obtain ⟨sj, pj⟩ := j
 simp only at h1 h2 g1
 have hB := Below.refl w.heap.size w
 have x := Blk.new w 25 #[.string (bs D.data), .slice A1 D.cache.length a1, .int .i64 D.fuse, .bool D.off, .slice A2 D.bad.length a2]
 have xk := blk5 x
 have hB_1 := hB.alloc hB.size (.cells #[.string (bs D.data), .slice A1 D.cache.length a1, .int .i64 D.fuse, .bool D.off, .slice A2 D.bad.length a2] 25)
 have y := Blk.new (w.alloc (.cells #[.string (bs D.data), .slice A1 D.cache.length a1, .int .i64 D.fuse, .bool D.off, .slice A2 D.bad.length a2] 25)) 30 #[.int .u64 sj, .int .i64 pj]
 simp only [World.size_alloc] at y
 have yk := blk2 y
 have hB_2 := hB_1.alloc hB_1.size (.cells #[.int .u64 sj, .int .i64 pj] 30)
 have x_3 := x.alloc (.cells #[.int .u64 sj, .int .i64 pj] 30)
 have xk_3 := blk5 x_3
 have z := Blk.new ((w.alloc (.cells #[.string (bs D.data), .slice A1 D.cache.length a1, .int .i64 D.fuse, .bool D.off, .slice A2 D.bad.length a2] 25)).alloc (.cells #[.int .u64 sj, .int .i64 pj] 30)) 67 #[.slice B1 L.targets.length b1, .slice B2 L.data.length b2]
 simp only [World.size_alloc] at z
 have zk := blk2 z
 have hB_4 := hB_2.alloc hB_2.size (.cells #[.slice B1 L.targets.length b1, .slice B2 L.data.length b2] 67)
 have x_5 := x_3.alloc (.cells #[.slice B1 L.targets.length b1, .slice B2 L.data.length b2] 67)
 have xk_5 := blk5 x_5
 have y_6 := y.alloc (.cells #[.slice B1 L.targets.length b1, .slice B2 L.data.length b2] 67)
 have yk_6 := blk2 y_6
 have r := Blk.new (((w.alloc (.cells #[.string (bs D.data), .slice A1 D.cache.length a1, .int .i64 D.fuse, .bool D.off, .slice A2 D.bad.length a2] 25)).alloc (.cells #[.int .u64 sj, .int .i64 pj] 30)).alloc (.cells #[.slice B1 L.targets.length b1, .slice B2 L.data.length b2] 67)) 25 #[.string (bs []), .slice none 0 0, .int .i64 0, .bool false, .slice none 0 0]
 simp only [World.size_alloc] at r
 have rk := blk5 r
 have rkf := r.frozen
 have hB_7 := hB_4.alloc hB_4.size (.cells #[.string (bs []), .slice none 0 0, .int .i64 0, .bool false, .slice none 0 0] 25)
 have x_8 := x_5.alloc (.cells #[.string (bs []), .slice none 0 0, .int .i64 0, .bool false, .slice none 0 0] 25)
 have xk_8 := blk5 x_8
 have y_9 := y_6.alloc (.cells #[.string (bs []), .slice none 0 0, .int .i64 0, .bool false, .slice none 0 0] 25)
 have yk_9 := blk2 y_9
 have z_10 := z.alloc (.cells #[.string (bs []), .slice none 0 0, .int .i64 0, .bool false, .slice none 0 0] 25)
 have zk_10 := blk2 z_10
 have s := Blk.new ((((w.alloc (.cells #[.string (bs D.data), .slice A1 D.cache.length a1, .int .i64 D.fuse, .bool D.off, .slice A2 D.bad.length a2] 25)).alloc (.cells #[.int .u64 sj, .int .i64 pj] 30)).alloc (.cells #[.slice B1 L.targets.length b1, .slice B2 L.data.length b2] 67)).alloc (.cells #[.string (bs []), .slice none 0 0, .int .i64 0, .bool false, .slice none 0 0] 25)) 30 #[.int .u64 0, .int .i64 0]
 simp only [World.size_alloc] at s
 have sk := blk2 s
 have skf := s.frozen
 have hB_11 := hB_7.alloc hB_7.size (.cells #[.int .u64 0, .int .i64 0] 30)
 have x_12 := x_8.alloc (.cells #[.int .u64 0, .int .i64 0] 30)
 have xk_12 := blk5 x_12
 have y_13 := y_9.alloc (.cells #[.int .u64 0, .int .i64 0] 30)
 have yk_13 := blk2 y_13
 have z_14 := z_10.alloc (.cells #[.int .u64 0, .int .i64 0] 30)
 have zk_14 := blk2 z_14
 have r_15 := r.alloc (.cells #[.int .u64 0, .int .i64 0] 30)
 have rk_15 := blk5 r_15
 have rkf_15 := r_15.frozen
 go_enter Tryz.func73, Tryz.ntmps73
 go_wp2_with fail
 go_region
 go_wp2_with fail
 refine bodyPost_ret (v := .tuple #[dval D ⟨A1, a1⟩ ⟨A2, a2⟩, jval ⟨sj, pj⟩, .int .i64 10]) (by simp [results, Tryz.results73, go_sem]) rfl ?_
 refine ⟨⟨_, _, by rw [Hw.out], ?_, ?_⟩, below_five _ _ _ _ _ _⟩
 · rw [Hw.out]; exact HD.out _ (below_five _ _ _ _ _ _)
 · rw [Hw.out]; exact fun _ _ h => h
set_option maxRecDepth 100000 in
set_option maxHeartbeats 4000000 in
theorem r7_commit_do (D : Dk) (j : Jr) (L : Pn) (p q p' q' : Pl) (w : World) (hD : IsDk w D p q) (hL : IsPn w L p' q') (hf : D.fit = true) (hfl : L.Fit) (h0 : L.targets ≠ []) (h1 : j.seq < 4611686018427387904) (h2 : -9223372036854775808 ≤ j.pos ∧ j.pos ≤ 9223372036854775807) :
 Calls Tryz.prog 73 #[dval D p q, jval j, pval L p' q'] w fun e w' => RetJr w.heap.size D p q (jrCommit D j L) e w' ∧ Below w.heap.size w w' := by
 obtain ⟨r1, r2, r3, r4⟩ := jrRows_ok (j := j) hfl h0
 have c1 := fun (W : World) (hb : Below w.heap.size w W) => r6_write ⟨j.seq, L⟩ p' q' W (hL.below hb) (by simp only; omega)
 rw [r1] at c1
 have hat := jrPlace_bound (pos := j.pos) (size := ((jrRows j L).length : Int)) (by omega) (by omega)
 have c2 := fun (W : World) => r7_place j.pos ((jrRows j L).length : Int) h2 ⟨by omega, by omega⟩ W
 have Hw0 := hid (show jrCommit D j L = if (comSteps D (6 + jrAt j L) (jrRows j L) L).2 ≠ 0 then ((comSteps D (6 + jrAt j L) (jrRows j L) L).1, j, (comSteps D (6 + jrAt j L) (jrRows j L) L).2)
  else ((comSteps D (6 + jrAt j L) (jrRows j L) L).1, ⟨j.seq + 1, jrAt j L + (jrRows j L).length⟩, 0) by
  unfold jrCommit; rw [if_neg h0, if_neg (by omega)])
 have e1 : jrAt j L = jrPlace j.pos ((jrRows j L).length : Int) := rfl
 rw [e1] at Hw0
 clear e1 r1
 generalize jrRows j L = R at *
 generalize jrPlace j.pos (R.length : Int) = at_ at *
 have hl1 := List.length_pos_iff.2 h0
 have hl24 := hfl.2.1
 have hl' : ((L.targets.length : Int) == 0) = false := by rw [beq_eq_false_iff_ne]; omega
 have HD := hid (fun (W : World) (hb : Below w.heap.size w W) => (hD.below hb : IsDk W D p q))
 have Hap := hid (fun g (hg : w.heap.size ≤ g) => hD.apart hg)
 have HL := hid (fun (W : World) (hb : Below w.heap.size w W) => (hL.below hb : IsPn W L p' q'))
 have g1 : ¬ (4611686018427387904 : Int) ≤ (j.seq : Int) := by omega
 have w7 := i64w (x := at_ + (R.length : Int)) ⟨by omega, by omega⟩
 have w8 := u64w (x := (j.seq : Int) + 1) ⟨by omega, by omega⟩
 have Hld := hid hfl.1
 have hfF := fun (W : World) (hb : Below w.heap.size w W) => r1_flush_n D p q W (hD.below hb) hf
 have hFf := Dk.flush_fit hf
 have Hcom := hid (show comSteps D (6 + at_) R L = Dk.next (Dk.next (Dk.next D.flush (Dk.layIn (rowsFrom (6 + at_) R))) Dk.flush) fun E => Pn.lay E L from rfl)
 generalize comSteps D (6 + at_) R L = X at *
 generalize D.flush = F at *
 obtain ⟨F, f⟩ := F
 clear hD hL h0 hfl hf
 obtain ⟨A1, a1⟩ := p
 obtain ⟨A2, a2⟩ := q
 obtain ⟨B1, b1⟩ := p'
 obtain ⟨B2, b2⟩ := q'
 obtain ⟨sj, pj⟩ := j
 simp only at h1 h2 g1 c1 c2 w8 hFf
 have hB := Below.refl w.heap.size w
 have x := Blk.new w 25 #[.string (bs D.data), .slice A1 D.cache.length a1, .int .i64 D.fuse, .bool D.off, .slice A2 D.bad.length a2]
 have xk := blk5 x
 have hB_1 := hB.alloc hB.size (.cells #[.string (bs D.data), .slice A1 D.cache.length a1, .int .i64 D.fuse, .bool D.off, .slice A2 D.bad.length a2] 25)
 have y := Blk.new (w.alloc (.cells #[.string (bs D.data), .slice A1 D.cache.length a1, .int .i64 D.fuse, .bool D.off, .slice A2 D.bad.length a2] 25)) 30 #[.int .u64 sj, .int .i64 pj]
 simp only [World.size_alloc] at y
 have yk := blk2 y
 have hB_2 := hB_1.alloc hB_1.size (.cells #[.int .u64 sj, .int .i64 pj] 30)
 have x_3 := x.alloc (.cells #[.int .u64 sj, .int .i64 pj] 30)
 have xk_3 := blk5 x_3
 have z := Blk.new ((w.alloc (.cells #[.string (bs D.data), .slice A1 D.cache.length a1, .int .i64 D.fuse, .bool D.off, .slice A2 D.bad.length a2] 25)).alloc (.cells #[.int .u64 sj, .int .i64 pj] 30)) 67 #[.slice B1 L.targets.length b1, .slice B2 L.data.length b2]
 simp only [World.size_alloc] at z
 have zk := blk2 z
 have hB_4 := hB_2.alloc hB_2.size (.cells #[.slice B1 L.targets.length b1, .slice B2 L.data.length b2] 67)
 have x_5 := x_3.alloc (.cells #[.slice B1 L.targets.length b1, .slice B2 L.data.length b2] 67)
 have xk_5 := blk5 x_5
 have y_6 := y.alloc (.cells #[.slice B1 L.targets.length b1, .slice B2 L.data.length b2] 67)
 have yk_6 := blk2 y_6
 have r := Blk.new (((w.alloc (.cells #[.string (bs D.data), .slice A1 D.cache.length a1, .int .i64 D.fuse, .bool D.off, .slice A2 D.bad.length a2] 25)).alloc (.cells #[.int .u64 sj, .int .i64 pj] 30)).alloc (.cells #[.slice B1 L.targets.length b1, .slice B2 L.data.length b2] 67)) 25 #[.string (bs []), .slice none 0 0, .int .i64 0, .bool false, .slice none 0 0]
 simp only [World.size_alloc] at r
 have rk := blk5 r
 have hB_7 := hB_4.alloc hB_4.size (.cells #[.string (bs []), .slice none 0 0, .int .i64 0, .bool false, .slice none 0 0] 25)
 have x_8 := x_5.alloc (.cells #[.string (bs []), .slice none 0 0, .int .i64 0, .bool false, .slice none 0 0] 25)
 have xk_8 := blk5 x_8
 have y_9 := y_6.alloc (.cells #[.string (bs []), .slice none 0 0, .int .i64 0, .bool false, .slice none 0 0] 25)
 have yk_9 := blk2 y_9
 have z_10 := z.alloc (.cells #[.string (bs []), .slice none 0 0, .int .i64 0, .bool false, .slice none 0 0] 25)
 have zk_10 := blk2 z_10
 have s := Blk.new ((((w.alloc (.cells #[.string (bs D.data), .slice A1 D.cache.length a1, .int .i64 D.fuse, .bool D.off, .slice A2 D.bad.length a2] 25)).alloc (.cells #[.int .u64 sj, .int .i64 pj] 30)).alloc (.cells #[.slice B1 L.targets.length b1, .slice B2 L.data.length b2] 67)).alloc (.cells #[.string (bs []), .slice none 0 0, .int .i64 0, .bool false, .slice none 0 0] 25)) 30 #[.int .u64 0, .int .i64 0]
 simp only [World.size_alloc] at s
 have sk := blk2 s
 have hB_11 := hB_7.alloc hB_7.size (.cells #[.int .u64 0, .int .i64 0] 30)
 have x_12 := x_8.alloc (.cells #[.int .u64 0, .int .i64 0] 30)
 have xk_12 := blk5 x_12
 have y_13 := y_9.alloc (.cells #[.int .u64 0, .int .i64 0] 30)
 have yk_13 := blk2 y_13
 have z_14 := z_10.alloc (.cells #[.int .u64 0, .int .i64 0] 30)
 have zk_14 := blk2 z_14
 have r_15 := r.alloc (.cells #[.int .u64 0, .int .i64 0] 30)
 have rk_15 := blk5 r_15
 have hs0 := s.lt
 go_enter Tryz.func73, Tryz.ntmps73
 go_wp2_with fail
 go_at_call 54
 refine ((hfF _ hB_11)).mono ?_
 rintro e w1 ⟨⟨p1, q1, rfl, i1, o1⟩, hb1⟩
 replace hB := bt hB_11 hb1
 replace x := x_12.below hb1 x_12.lt
 replace xk := blk5 x
 replace y := y_13.below hb1 y_13.lt
 replace yk := blk2 y
 replace z := z_14.below hb1 z_14.lt
 replace zk := blk2 z
 replace r := r_15.below hb1 r_15.lt
 replace rk := blk5 r
 replace s := s.below hb1 s.lt
 replace sk := blk2 s
 clear hB_1 hB_2 xk_3 x_3 hB_4 xk_5 x_5 yk_6 y_6 hB_7 xk_8 x_8 yk_9 y_9 zk_10 z_10 hB_11 xk_12 x_12 yk_13 y_13 zk_14 z_14 rk_15 r_15
 simp only at i1 o1
 have xf := x.frozen
 have od := o1 w.heap.size (by omega) (Hap.out _ (Nat.le_refl _))
 have or := o1 (w.heap.size + 1 + 1 + 1) (by omega) (Hap.out _ (by omega))
 have os := o1 (w.heap.size + 1 + 1 + 1 + 1) (by omega) (Hap.out _ (by omega))
 have Hof := hid (fun b (hb : b < w.heap.size) => o1 b (by omega))
 have Hoa : ∀ b, b ≤ w.heap.size + 1 + 1 + 1 + 1 → (b < w.heap.size → DkOff b D ⟨A1, a1⟩ ⟨A2, a2⟩) → DkOff b F p1 q1 := fun b h1 h2 => o1 b (by omega) (by rcases Nat.lt_or_ge b w.heap.size with h | h; (exact h2 h); (exact Hap.out _ h))
 clear o1 hs0
 have hB_16 := below_set5 hB (g := w.heap.size) (by omega) (.string (bs F.data)) (.slice p1.a F.cache.length p1.c) (.int .i64 F.fuse) (.bool F.off) (.slice q1.a F.bad.length q1.c)
 have x_17 := blk_set5 x (.string (bs F.data)) (.slice p1.a F.cache.length p1.c) (.int .i64 F.fuse) (.bool F.off) (.slice q1.a F.bad.length q1.c)
 have xk_17 := blk5 x_17
 have y_18 := blk_off5 y (g := w.heap.size) (by omega) (.string (bs F.data)) (.slice p1.a F.cache.length p1.c) (.int .i64 F.fuse) (.bool F.off) (.slice q1.a F.bad.length q1.c)
 have yk_18 := blk2 y_18
 have z_19 := blk_off5 z (g := w.heap.size) (by omega) (.string (bs F.data)) (.slice p1.a F.cache.length p1.c) (.int .i64 F.fuse) (.bool F.off) (.slice q1.a F.bad.length q1.c)
 have zk_19 := blk2 z_19
 have r_20 := blk_off5 r (g := w.heap.size) (by omega) (.string (bs F.data)) (.slice p1.a F.cache.length p1.c) (.int .i64 F.fuse) (.bool F.off) (.slice q1.a F.bad.length q1.c)
 have rk_20 := blk5 r_20
 have s_21 := blk_off5 s (g := w.heap.size) (by omega) (.string (bs F.data)) (.slice p1.a F.cache.length p1.c) (.int .i64 F.fuse) (.bool F.off) (.slice q1.a F.bad.length q1.c)
 have sk_21 := blk2 s_21
 have i1_22 := i1.off5 (g := w.heap.size) (by first | assumption | omega) (.string (bs F.data)) (.slice p1.a F.cache.length p1.c) (.int .i64 F.fuse) (.bool F.off) (.slice q1.a F.bad.length q1.c)
 by_cases hf0 : f = 0
 case neg =>
  have hX : X = (F, f) := by rw [Hcom.out, Dk.next_err (X := (F, f)) hf0, Dk.next_err (X := (F, f)) hf0, Dk.next_err (X := (F, f)) hf0]
  have Hw := hid (show jrCommit D ⟨sj, pj⟩ L = (F, ⟨sj, pj⟩, f) by rw [Hw0.out, hX, if_pos hf0])
  have n1 : (f != 0) = true := by simpa using hf0
  clear hX hf0
  have rq := r_20
  have sq := s_21
  have kr := blk5 rq
  have ks := blk2 sq
  have fr := rq.frozen
  have fs := sq.frozen
  go_wp2_with fail
  go_region
  have r7 := (blk_off2 (blk_set5 rq (.string (bs F.data)) (.slice p1.a F.cache.length p1.c) (.int .i64 F.fuse) (.bool F.off) (.slice q1.a F.bad.length q1.c)) (g := w.heap.size + 1 + 1 + 1 + 1) (by omega) (.int .u64 (sj : Int)) (.int .i64 pj)).drew
  have s7 := (blk_set2 (blk_off5 sq (g := w.heap.size + 1 + 1 + 1) (by omega) (.string (bs F.data)) (.slice p1.a F.cache.length p1.c) (.int .i64 F.fuse) (.bool F.off) (.slice q1.a F.bad.length q1.c)) (.int .u64 (sj : Int)) (.int .i64 pj)).drew
  have i7 := ((i1_22.off5 or (.string (bs F.data)) (.slice p1.a F.cache.length p1.c) (.int .i64 F.fuse) (.bool F.off) (.slice q1.a F.bad.length q1.c)).off (a := ⟨w.heap.size + 1 + 1 + 1 + 1, 0, none⟩) os (.int .u64 (sj : Int))).off (a := ⟨w.heap.size + 1 + 1 + 1 + 1, 1, none⟩) os (.int .i64 pj)
  have B7 := (below_set2 (below_set5 hB_16 (g := w.heap.size + 1 + 1 + 1) (by omega) (.string (bs F.data)) (.slice p1.a F.cache.length p1.c) (.int .i64 F.fuse) (.bool F.off) (.slice q1.a F.bad.length q1.c)) (g := w.heap.size + 1 + 1 + 1 + 1) (by omega) (.int .u64 (sj : Int)) (.int .i64 pj)).drew
  have yr := blk5 r7
  have ys := blk2 s7
  go_wp2_with fail
  refine bodyPost_ret (v := .tuple #[dval F p1 q1, .agg #[.int .u64 (sj : Int), .int .i64 pj], .int .i64 f]) (by simp [results, Tryz.results73, go_sem, yr, ys]) rfl ?_
  exact ⟨⟨p1, q1, by rw [Hw.out], by rw [Hw.out]; exact i7.below (Below.refl _ _).drew, by rw [Hw.out]; exact fun b hb h => Hof.out b hb h⟩, B7⟩
 subst hf0
 have Hcom2 := hid (show X = Dk.next (Dk.next (Dk.layIn (rowsFrom (6 + at_) R) F) Dk.flush) fun E => Pn.lay E L by rw [Hcom.out, Dk.next_zero (X := (F, 0)) rfl])
 have hw1 : w.heap.size < w1.heap.size := x.lt
 go_wp2_with fail
 go_at_call 89
 refine ((c1 _ hB_16)).mono ?_
 rintro e w2 ⟨⟨v1, rfl, own1⟩, hb2⟩
 replace hB := bt hB_16 hb2
 replace x := x_17.below hb2 x_17.lt
 replace xk := blk5 x
 replace y := y_18.below hb2 y_18.lt
 replace yk := blk2 y
 replace z := z_19.below hb2 z_19.lt
 replace zk := blk2 z
 replace r := r_20.below hb2 r_20.lt
 replace rk := blk5 r
 replace s := s_21.below hb2 s_21.lt
 replace sk := blk2 s
 replace i1 := i1_22.below hb2
 clear hB_16 xk_17 x_17 yk_18 y_18 zk_19 z_19 rk_20 r_20 sk_21 s_21 i1_22
 simp only at own1
 obtain ⟨C1, d1, rfl, u1, u2, u3⟩ := own_slice own1
 have oR : Off w.heap.size C1 R.length := off_own own1 (by simp; omega)
 have cc1 := Cells.of_own own1
 go_wp2_with fail
 go_at_call 90
 refine ((c2 _)).mono ?_
 rintro e w3 ⟨rfl, hb3⟩
 replace hB := bt hB hb3
 replace x := x.below hb3 x.lt
 replace xk := blk5 x
 replace y := y.below hb3 y.lt
 replace yk := blk2 y
 replace z := z.below hb3 z.lt
 replace zk := blk2 z
 replace r := r.below hb3 r.lt
 replace rk := blk5 r
 replace s := s.below hb3 s.lt
 replace sk := blk2 s
 replace i1 := i1.below hb3
 replace cc1 := cc1.below hb3
 go_wp2_with fail
 go_loopw [12] (fun u W => ∃ (i : Nat) (E : Dk) (pe qe : Pl), i ≤ R.length ∧ u = .int .i64 i ∧ Hid (Dk.layIn ((rowsFrom (6 + at_) R).take i) F = (E, 0)) ∧ Hid (E.fit = true) ∧ Blk W w.heap.size 25 #[.string (bs E.data), .slice pe.a E.cache.length pe.c, .int .i64 E.fuse, .bool E.off, .slice qe.a E.bad.length qe.c] ∧ IsDk W E pe qe ∧ Hid (∀ b, b ≤ w.heap.size + 1 + 1 + 1 + 1 → (b < w.heap.size → DkOff b D ⟨A1, a1⟩ ⟨A2, a2⟩) → DkOff b E pe qe) ∧
  Blk W (w.heap.size + 1) 30 #[.int .u64 sj, .int .i64 pj] ∧ Blk W (w.heap.size + 1 + 1) 67 #[.slice B1 L.targets.length b1, .slice B2 L.data.length b2] ∧ Blk W (w.heap.size + 1 + 1 + 1) 25 #[.string (bs []), .slice none 0 0, .int .i64 0, .bool false, .slice none 0 0] ∧ Blk W (w.heap.size + 1 + 1 + 1 + 1) 30 #[.int .u64 0, .int .i64 0] ∧ Cells W C1 (strCells R) ∧ Below w.heap.size w W) (fun u _ => R.length - (intOf u).toNat)
 case atStart => exact ⟨0, F, p1, q1, Nat.zero_le _, rfl, hid rfl, hid hFf, x, i1, hid Hoa, y, z, r, s, cc1, hB⟩
 case round =>
  obtain ⟨i, E, pe, qe, hi, rfl, hE, hEf, hx, hIs, hoff, hy, hz, hr, hs, hC, hb⟩ := hrel
  have kx := blk5 hx
  have ky := blk2 hy
  have fx := hx.frozen
  by_cases hlt : i < R.length
  · obtain ⟨cb, co, rfl, hcell⟩ := hC.str hlt
    replace hcell := hcell i hlt
    have hs64 := r3 _ (List.getElem_mem hlt)
    obtain ⟨⟨G, er⟩, hG⟩ : ∃ X', E.write (6 + at_ + i) R[i] = X' := ⟨_, rfl⟩
    have hZ : i < (rowsFrom (6 + at_) R).length := by rw [rowsFrom_length]; exact hlt
    have Hn := hid (show Dk.layIn ((rowsFrom (6 + at_) R).take (i + 1)) F = (G, er) by
     rw [List.take_succ_eq_append_getElem hZ, Dk.layIn_snoc _ _ _ (by rw [hE.out]), hE.out, rowsFrom_get R (6 + at_) i hlt]; exact hG)
    have Hnf := hid (show G.fit = true by have := Dk.write_fit hEf.out (6 + at_ + i) R[i]; rw [hG] at this; exact this)
    have Hst := hid (fun (h : er ≠ 0) => show X = (G, er) by
     have e : rowsFrom (6 + at_) R = (rowsFrom (6 + at_) R).take (i + 1) ++ (rowsFrom (6 + at_) R).drop (i + 1) := (List.take_append_drop _ _).symm
     have e2 : Dk.layIn (rowsFrom (6 + at_) R) F = (G, er) := by
      rw [e, Dk.layIn_stop _ _ _ (by rw [Hn.out]; exact h), Hn.out]
     rw [Hcom2.out, e2, Dk.next_err (X := (G, er)) h, Dk.next_err (X := (G, er)) h])
    have hw := fun (W : World) (hb : Below wr.heap.size wr W) => r1_write_n E pe qe W (hIs.below hb) (6 + at_ + i) ⟨by omega, by omega⟩ R[i] (by omega)
    simp only [hG] at hw
    clear hE hG hZ
    generalize R[i] = sec at *
    have wa := i64w (x := 6 + at_) ⟨by omega, by omega⟩
    have ib1 : (0 : Int) ≤ (i : Int) := by omega
    have ib2 : (i : Int) < (R.length : Int) := by omega
    have wb := i64w (x := 6 + at_ + (i : Int)) ⟨by omega, by omega⟩
    have KS := fun (U : World) (hb : Below wr.heap.size wr U) => And.intro (blk5 (hx.below hb hx.lt)) (cell_below hb hcell)
    have hbr := (Below.refl wr.heap.size wr).drew
    have hbr1 : Below wr.heap.size wr ((wr.alloc (.cells #[.string (bs []), .slice none 0 0, .int .i64 0, .bool false, .slice none 0 0] 25)).drew) := ((Below.refl wr.heap.size wr).alloc (Nat.le_refl _) (.cells #[.string (bs []), .slice none 0 0, .int .i64 0, .bool false, .slice none 0 0] 25)).drew
    have rn : Blk ((wr.alloc (.cells #[.string (bs []), .slice none 0 0, .int .i64 0, .bool false, .slice none 0 0] 25)).drew) wr.heap.size 25 #[.string (bs []), .slice none 0 0, .int .i64 0, .bool false, .slice none 0 0] := (Blk.new wr 25 #[.string (bs []), .slice none 0 0, .int .i64 0, .bool false, .slice none 0 0]).drew
    go_wp2_with fail
    go_region_held3 (fun W => (W.cell? ⟨w.heap.size, 0, none⟩ = some (.string (bs E.data)) ∧ W.cell? ⟨w.heap.size, 1, none⟩ = some (.slice pe.a E.cache.length pe.c) ∧ W.cell? ⟨w.heap.size, 2, none⟩ = some (.int .i64 E.fuse) ∧ W.cell? ⟨w.heap.size, 3, none⟩ = some (.bool E.off) ∧ W.cell? ⟨w.heap.size, 4, none⟩ = some (.slice qe.a E.bad.length qe.c)) ∧ W.cell? ⟨cb, co + i, none⟩ = some (.string (bs sec)))
     (first | exact KS _ hbr | exact KS _ hbr1 | exact KS _ (bt hbr hbf) | exact KS _ (bt hbr1 hbf) | exact KS _ ((bt hbr hbf).alloc (bt hbr hbf).size _) | exact KS _ hbw | exact KS _ (hbw.alloc hbw.size _) | exact KS _ (below_set5 hbw hg7 _ _ _ _ _))
     (first | (go_at_call 91; refine (r7_first _).mono ?_; rintro e W1 ⟨rfl, hbf⟩) | (go_at_call 37; refine (hw _ (bt hbr hbf)).mono ?_; rintro e W2 ⟨⟨p2, q2, rfl, i2, o2⟩, hbl⟩; have hbw := bt (bt hbr hbf) hbl; have o2' := fun g (hg : g < wr.heap.size) => o2 g (Nat.lt_of_lt_of_le hg (bt hbr hbf).size)) | (go_at_call 37; refine (hw _ (bt hbr1 hbf)).mono ?_; rintro e W2 ⟨⟨p2, q2, rfl, i2, o2⟩, hbl⟩; have hbw := bt (bt hbr1 hbf) hbl; have o2' := fun g (hg : g < wr.heap.size) => o2 g (Nat.lt_of_lt_of_le hg (bt hbr1 hbf).size); have hg7 := Nat.le_refl wr.heap.size; have rl := Nat.lt_of_lt_of_le rn.lt hbf.size; have rn2 := (rn.below hbf rn.lt).below hbl rl; have rk2 := blk5 rn2; have rf2 := rn2.frozen; have og7 := o2 wr.heap.size rl (hIs.apart (Nat.le_refl _))) | (go_at_call 37; refine (hw _ ((bt hbr hbf).alloc (bt hbr hbf).size (.cells #[.string (bs []), .slice none 0 0, .int .i64 0, .bool false, .slice none 0 0] 25))).mono ?_; rintro e W2 ⟨⟨p2, q2, rfl, i2, o2⟩, hbl⟩; have hbw := bt ((bt hbr hbf).alloc (bt hbr hbf).size (.cells #[.string (bs []), .slice none 0 0, .int .i64 0, .bool false, .slice none 0 0] 25)) hbl; have o2' := fun g (hg : g < wr.heap.size) => o2 g (Nat.lt_of_lt_of_le hg ((bt hbr hbf).alloc (bt hbr hbf).size (.cells #[.string (bs []), .slice none 0 0, .int .i64 0, .bool false, .slice none 0 0] 25)).size); have hg7 := (bt hbr hbf).size; have rn1 := Blk.new W1 25 #[.string (bs []), .slice none 0 0, .int .i64 0, .bool false, .slice none 0 0]; have rn2 := rn1.below hbl rn1.lt; have rk2 := blk5 rn2; have rf2 := rn2.frozen; have og7 := o2 W1.heap.size rn1.lt ((hIs.below (bt hbr hbf)).apart (Nat.le_refl _))))
    · have hvA := hbw.size
      have bt7 := Blk.new W2 25 #[.string (bs G.data), .slice p2.a G.cache.length p2.c, .int .i64 G.fuse, .bool G.off, .slice q2.a G.bad.length q2.c]
      have b7w := hbw.alloc hbw.size (.cells #[.string (bs G.data), .slice p2.a G.cache.length p2.c, .int .i64 G.fuse, .bool G.off, .slice q2.a G.bad.length q2.c] 25)
      have i7 := i2.below ((Below.refl W2.heap.size W2).alloc (Nat.le_refl _) (.cells #[.string (bs G.data), .slice p2.a G.cache.length p2.c, .int .i64 G.fuse, .bool G.off, .slice q2.a G.bad.length q2.c] 25))
      have lt7 : w.heap.size + 1 + 1 + 1 + 1 < W2.heap.size := Nat.lt_of_lt_of_le hs.lt hbw.size
      have bd7 := hx.below b7w hx.lt
      have by7 := hy.below b7w hy.lt
      have bz7 := hz.below b7w hz.lt
      have br7 := hr.below b7w hr.lt
      have bs7 := hs.below b7w hs.lt
      have c7 := hC.below b7w
      have b7 := bt hb b7w
      have H3' := hid (fun b (g1 : b ≤ w.heap.size + 1 + 1 + 1 + 1) (g2 : b < w.heap.size → DkOff b D ⟨A1, a1⟩ ⟨A2, a2⟩) => o2' b (Nat.lt_of_le_of_lt g1 hs.lt) (hoff.out b g1 g2))
      have od : DkOff w.heap.size G p2 q2 := H3'.out _ (by omega) (fun h => absurd h (by omega))
      have or : DkOff (w.heap.size + 1 + 1 + 1) G p2 q2 := H3'.out _ (by omega) (fun h => absurd h (by omega))
      have os : DkOff (w.heap.size + 1 + 1 + 1 + 1) G p2 q2 := H3'.out _ (by omega) (fun h => absurd h (by omega))
      have oc : Off w.heap.size (some ⟨cb, co, none⟩) (strCells R).length := by rw [strCells_length]; exact oR
      clear kx ky fx KS hbr hbr1 hw hbw b7w hbl hbf i2 o2 o2' hcell hx hy hz hr hs hC hb
      generalize W2.alloc (.cells #[.string (bs G.data), .slice p2.a G.cache.length p2.c, .int .i64 G.fuse, .bool G.off, .slice q2.a G.bad.length q2.c] 25) = U at *
      have kt := blk5 bt7
      have kd := blk5 bd7
      have fd := bd7.frozen
      by_cases he : er = 0
      · subst he
        go_wp2_with fail
        go_roundw
        case rel => exact ⟨i + 1, G, p2, q2, by omega, by go_num, Hn, Hnf, blk_set5 bd7 (.string (bs G.data)) (.slice p2.a G.cache.length p2.c) (.int .i64 G.fuse) (.bool G.off) (.slice q2.a G.bad.length q2.c), i7.off5 od (.string (bs G.data)) (.slice p2.a G.cache.length p2.c) (.int .i64 G.fuse) (.bool G.off) (.slice q2.a G.bad.length q2.c), H3', blk_off5 by7 (by omega) (.string (bs G.data)) (.slice p2.a G.cache.length p2.c) (.int .i64 G.fuse) (.bool G.off) (.slice q2.a G.bad.length q2.c), blk_off5 bz7 (by omega) (.string (bs G.data)) (.slice p2.a G.cache.length p2.c) (.int .i64 G.fuse) (.bool G.off) (.slice q2.a G.bad.length q2.c), blk_off5 br7 (by omega) (.string (bs G.data)) (.slice p2.a G.cache.length p2.c) (.int .i64 G.fuse) (.bool G.off) (.slice q2.a G.bad.length q2.c), blk_off5 bs7 (by omega) (.string (bs G.data)) (.slice p2.a G.cache.length p2.c) (.int .i64 G.fuse) (.bool G.off) (.slice q2.a G.bad.length q2.c), c7.off5 oc (.string (bs G.data)) (.slice p2.a G.cache.length p2.c) (.int .i64 G.fuse) (.bool G.off) (.slice q2.a G.bad.length q2.c), below_set5 b7 (Nat.le_refl _) (.string (bs G.data)) (.slice p2.a G.cache.length p2.c) (.int .i64 G.fuse) (.bool G.off) (.slice q2.a G.bad.length q2.c)⟩
        case measure => simp [intOf]; omega
      · have hX := Hst.out he
        have Hw := hid (show jrCommit D ⟨sj, pj⟩ L = (G, ⟨sj, pj⟩, er) by rw [Hw0.out, hX, if_pos he])
        have n1 : (er != 0) = true := by simpa using he
        have Hof := hid (fun b (hb : b < w.heap.size) (h : DkOff b D ⟨A1, a1⟩ ⟨A2, a2⟩) => H3'.out b (by omega) (fun _ => h))
        clear hX he Hst
        have kx9 := blk5 (blk_set5 bd7 (.string (bs G.data)) (.slice p2.a G.cache.length p2.c) (.int .i64 G.fuse) (.bool G.off) (.slice q2.a G.bad.length q2.c))
        have ky9 := blk2 (blk_off5 by7 (g := w.heap.size) (by omega) (.string (bs G.data)) (.slice p2.a G.cache.length p2.c) (.int .i64 G.fuse) (.bool G.off) (.slice q2.a G.bad.length q2.c))
        have rq := (blk_off5 br7 (g := w.heap.size) (by omega) (.string (bs G.data)) (.slice p2.a G.cache.length p2.c) (.int .i64 G.fuse) (.bool G.off) (.slice q2.a G.bad.length q2.c))
        have sq := (blk_off5 bs7 (g := w.heap.size) (by omega) (.string (bs G.data)) (.slice p2.a G.cache.length p2.c) (.int .i64 G.fuse) (.bool G.off) (.slice q2.a G.bad.length q2.c))
        have kr := blk5 rq
        have ks := blk2 sq
        have fr := rq.frozen
        have fs := sq.frozen
        go_wp2_with fail
        go_region
        have r7 := (blk_off2 (blk_set5 rq (.string (bs G.data)) (.slice p2.a G.cache.length p2.c) (.int .i64 G.fuse) (.bool G.off) (.slice q2.a G.bad.length q2.c)) (g := w.heap.size + 1 + 1 + 1 + 1) (by omega) (.int .u64 (sj : Int)) (.int .i64 pj)).drew
        have s7 := (blk_set2 (blk_off5 sq (g := w.heap.size + 1 + 1 + 1) (by omega) (.string (bs G.data)) (.slice p2.a G.cache.length p2.c) (.int .i64 G.fuse) (.bool G.off) (.slice q2.a G.bad.length q2.c)) (.int .u64 (sj : Int)) (.int .i64 pj)).drew
        have i7 := (((i7.off5 od (.string (bs G.data)) (.slice p2.a G.cache.length p2.c) (.int .i64 G.fuse) (.bool G.off) (.slice q2.a G.bad.length q2.c)).off5 or (.string (bs G.data)) (.slice p2.a G.cache.length p2.c) (.int .i64 G.fuse) (.bool G.off) (.slice q2.a G.bad.length q2.c)).off (a := ⟨w.heap.size + 1 + 1 + 1 + 1, 0, none⟩) os (.int .u64 (sj : Int))).off (a := ⟨w.heap.size + 1 + 1 + 1 + 1, 1, none⟩) os (.int .i64 pj)
        have B7 := (below_set2 (below_set5 (below_set5 b7 (Nat.le_refl _) (.string (bs G.data)) (.slice p2.a G.cache.length p2.c) (.int .i64 G.fuse) (.bool G.off) (.slice q2.a G.bad.length q2.c)) (g := w.heap.size + 1 + 1 + 1) (by omega) (.string (bs G.data)) (.slice p2.a G.cache.length p2.c) (.int .i64 G.fuse) (.bool G.off) (.slice q2.a G.bad.length q2.c)) (g := w.heap.size + 1 + 1 + 1 + 1) (by omega) (.int .u64 (sj : Int)) (.int .i64 pj)).drew
        have yr := blk5 r7
        have ys := blk2 s7
        go_wp2_with fail
        refine bodyPost_ret (v := .tuple #[dval G p2 q2, .agg #[.int .u64 (sj : Int), .int .i64 pj], .int .i64 er]) (by simp [results, Tryz.results73, go_sem, yr, ys]) rfl ?_
        exact ⟨⟨p2, q2, by rw [Hw.out], by rw [Hw.out]; exact i7.below (Below.refl _ _).drew, by rw [Hw.out]; exact fun b hb h => Hof.out b hb h⟩, B7⟩
    · have hvB := hbw.size
      have bt7 := blk_set5 rn2 (.string (bs G.data)) (.slice p2.a G.cache.length p2.c) (.int .i64 G.fuse) (.bool G.off) (.slice q2.a G.bad.length q2.c)
      have b7w := below_set5 hbw (g := W1.heap.size) hg7 (.string (bs G.data)) (.slice p2.a G.cache.length p2.c) (.int .i64 G.fuse) (.bool G.off) (.slice q2.a G.bad.length q2.c)
      have i7 := i2.off5 (g := W1.heap.size) og7 (.string (bs G.data)) (.slice p2.a G.cache.length p2.c) (.int .i64 G.fuse) (.bool G.off) (.slice q2.a G.bad.length q2.c)
      have lt7 : w.heap.size + 1 + 1 + 1 + 1 < W1.heap.size := Nat.lt_of_lt_of_le hs.lt hg7
      have bd7 := hx.below b7w hx.lt
      have by7 := hy.below b7w hy.lt
      have bz7 := hz.below b7w hz.lt
      have br7 := hr.below b7w hr.lt
      have bs7 := hs.below b7w hs.lt
      have c7 := hC.below b7w
      have b7 := bt hb b7w
      have H3' := hid (fun b (g1 : b ≤ w.heap.size + 1 + 1 + 1 + 1) (g2 : b < w.heap.size → DkOff b D ⟨A1, a1⟩ ⟨A2, a2⟩) => o2' b (Nat.lt_of_le_of_lt g1 hs.lt) (hoff.out b g1 g2))
      have od : DkOff w.heap.size G p2 q2 := H3'.out _ (by omega) (fun h => absurd h (by omega))
      have or : DkOff (w.heap.size + 1 + 1 + 1) G p2 q2 := H3'.out _ (by omega) (fun h => absurd h (by omega))
      have os : DkOff (w.heap.size + 1 + 1 + 1 + 1) G p2 q2 := H3'.out _ (by omega) (fun h => absurd h (by omega))
      have oc : Off w.heap.size (some ⟨cb, co, none⟩) (strCells R).length := by rw [strCells_length]; exact oR
      clear kx ky fx KS hbr hbr1 hw hbw b7w hbl hbf i2 o2 o2' hcell hx hy hz hr hs hC hb
      generalize (((((W2.setCell ⟨W1.heap.size, 0, none⟩ (.string (bs G.data))).setCell ⟨W1.heap.size, 1, none⟩ (.slice p2.a G.cache.length p2.c)).setCell ⟨W1.heap.size, 2, none⟩ (.int .i64 G.fuse)).setCell ⟨W1.heap.size, 3, none⟩ (.bool G.off)).setCell ⟨W1.heap.size, 4, none⟩ (.slice q2.a G.bad.length q2.c)) = U at *
      have kt := blk5 bt7
      have kd := blk5 bd7
      have fd := bd7.frozen
      by_cases he : er = 0
      · subst he
        go_wp2_with fail
        go_roundw
        case rel => exact ⟨i + 1, G, p2, q2, by omega, by go_num, Hn, Hnf, blk_set5 bd7 (.string (bs G.data)) (.slice p2.a G.cache.length p2.c) (.int .i64 G.fuse) (.bool G.off) (.slice q2.a G.bad.length q2.c), i7.off5 od (.string (bs G.data)) (.slice p2.a G.cache.length p2.c) (.int .i64 G.fuse) (.bool G.off) (.slice q2.a G.bad.length q2.c), H3', blk_off5 by7 (by omega) (.string (bs G.data)) (.slice p2.a G.cache.length p2.c) (.int .i64 G.fuse) (.bool G.off) (.slice q2.a G.bad.length q2.c), blk_off5 bz7 (by omega) (.string (bs G.data)) (.slice p2.a G.cache.length p2.c) (.int .i64 G.fuse) (.bool G.off) (.slice q2.a G.bad.length q2.c), blk_off5 br7 (by omega) (.string (bs G.data)) (.slice p2.a G.cache.length p2.c) (.int .i64 G.fuse) (.bool G.off) (.slice q2.a G.bad.length q2.c), blk_off5 bs7 (by omega) (.string (bs G.data)) (.slice p2.a G.cache.length p2.c) (.int .i64 G.fuse) (.bool G.off) (.slice q2.a G.bad.length q2.c), c7.off5 oc (.string (bs G.data)) (.slice p2.a G.cache.length p2.c) (.int .i64 G.fuse) (.bool G.off) (.slice q2.a G.bad.length q2.c), below_set5 b7 (Nat.le_refl _) (.string (bs G.data)) (.slice p2.a G.cache.length p2.c) (.int .i64 G.fuse) (.bool G.off) (.slice q2.a G.bad.length q2.c)⟩
        case measure => simp [intOf]; omega
      · have hX := Hst.out he
        have Hw := hid (show jrCommit D ⟨sj, pj⟩ L = (G, ⟨sj, pj⟩, er) by rw [Hw0.out, hX, if_pos he])
        have n1 : (er != 0) = true := by simpa using he
        have Hof := hid (fun b (hb : b < w.heap.size) (h : DkOff b D ⟨A1, a1⟩ ⟨A2, a2⟩) => H3'.out b (by omega) (fun _ => h))
        clear hX he Hst
        have kx9 := blk5 (blk_set5 bd7 (.string (bs G.data)) (.slice p2.a G.cache.length p2.c) (.int .i64 G.fuse) (.bool G.off) (.slice q2.a G.bad.length q2.c))
        have ky9 := blk2 (blk_off5 by7 (g := w.heap.size) (by omega) (.string (bs G.data)) (.slice p2.a G.cache.length p2.c) (.int .i64 G.fuse) (.bool G.off) (.slice q2.a G.bad.length q2.c))
        have rq := (blk_off5 br7 (g := w.heap.size) (by omega) (.string (bs G.data)) (.slice p2.a G.cache.length p2.c) (.int .i64 G.fuse) (.bool G.off) (.slice q2.a G.bad.length q2.c))
        have sq := (blk_off5 bs7 (g := w.heap.size) (by omega) (.string (bs G.data)) (.slice p2.a G.cache.length p2.c) (.int .i64 G.fuse) (.bool G.off) (.slice q2.a G.bad.length q2.c))
        have kr := blk5 rq
        have ks := blk2 sq
        have fr := rq.frozen
        have fs := sq.frozen
        go_wp2_with fail
        go_region
        have r7 := (blk_off2 (blk_set5 rq (.string (bs G.data)) (.slice p2.a G.cache.length p2.c) (.int .i64 G.fuse) (.bool G.off) (.slice q2.a G.bad.length q2.c)) (g := w.heap.size + 1 + 1 + 1 + 1) (by omega) (.int .u64 (sj : Int)) (.int .i64 pj)).drew
        have s7 := (blk_set2 (blk_off5 sq (g := w.heap.size + 1 + 1 + 1) (by omega) (.string (bs G.data)) (.slice p2.a G.cache.length p2.c) (.int .i64 G.fuse) (.bool G.off) (.slice q2.a G.bad.length q2.c)) (.int .u64 (sj : Int)) (.int .i64 pj)).drew
        have i7 := (((i7.off5 od (.string (bs G.data)) (.slice p2.a G.cache.length p2.c) (.int .i64 G.fuse) (.bool G.off) (.slice q2.a G.bad.length q2.c)).off5 or (.string (bs G.data)) (.slice p2.a G.cache.length p2.c) (.int .i64 G.fuse) (.bool G.off) (.slice q2.a G.bad.length q2.c)).off (a := ⟨w.heap.size + 1 + 1 + 1 + 1, 0, none⟩) os (.int .u64 (sj : Int))).off (a := ⟨w.heap.size + 1 + 1 + 1 + 1, 1, none⟩) os (.int .i64 pj)
        have B7 := (below_set2 (below_set5 (below_set5 b7 (Nat.le_refl _) (.string (bs G.data)) (.slice p2.a G.cache.length p2.c) (.int .i64 G.fuse) (.bool G.off) (.slice q2.a G.bad.length q2.c)) (g := w.heap.size + 1 + 1 + 1) (by omega) (.string (bs G.data)) (.slice p2.a G.cache.length p2.c) (.int .i64 G.fuse) (.bool G.off) (.slice q2.a G.bad.length q2.c)) (g := w.heap.size + 1 + 1 + 1 + 1) (by omega) (.int .u64 (sj : Int)) (.int .i64 pj)).drew
        have yr := blk5 r7
        have ys := blk2 s7
        go_wp2_with fail
        refine bodyPost_ret (v := .tuple #[dval G p2 q2, .agg #[.int .u64 (sj : Int), .int .i64 pj], .int .i64 er]) (by simp [results, Tryz.results73, go_sem, yr, ys]) rfl ?_
        exact ⟨⟨p2, q2, by rw [Hw.out], by rw [Hw.out]; exact i7.below (Below.refl _ _).drew, by rw [Hw.out]; exact fun b hb h => Hof.out b hb h⟩, B7⟩
    · have hvC := hbw.size
      have bt7 := blk_set5 rn2 (.string (bs G.data)) (.slice p2.a G.cache.length p2.c) (.int .i64 G.fuse) (.bool G.off) (.slice q2.a G.bad.length q2.c)
      have b7w := below_set5 hbw (g := wr.heap.size) hg7 (.string (bs G.data)) (.slice p2.a G.cache.length p2.c) (.int .i64 G.fuse) (.bool G.off) (.slice q2.a G.bad.length q2.c)
      have i7 := i2.off5 (g := wr.heap.size) og7 (.string (bs G.data)) (.slice p2.a G.cache.length p2.c) (.int .i64 G.fuse) (.bool G.off) (.slice q2.a G.bad.length q2.c)
      have lt7 : w.heap.size + 1 + 1 + 1 + 1 < wr.heap.size := Nat.lt_of_lt_of_le hs.lt hg7
      have bd7 := hx.below b7w hx.lt
      have by7 := hy.below b7w hy.lt
      have bz7 := hz.below b7w hz.lt
      have br7 := hr.below b7w hr.lt
      have bs7 := hs.below b7w hs.lt
      have c7 := hC.below b7w
      have b7 := bt hb b7w
      have H3' := hid (fun b (g1 : b ≤ w.heap.size + 1 + 1 + 1 + 1) (g2 : b < w.heap.size → DkOff b D ⟨A1, a1⟩ ⟨A2, a2⟩) => o2' b (Nat.lt_of_le_of_lt g1 hs.lt) (hoff.out b g1 g2))
      have od : DkOff w.heap.size G p2 q2 := H3'.out _ (by omega) (fun h => absurd h (by omega))
      have or : DkOff (w.heap.size + 1 + 1 + 1) G p2 q2 := H3'.out _ (by omega) (fun h => absurd h (by omega))
      have os : DkOff (w.heap.size + 1 + 1 + 1 + 1) G p2 q2 := H3'.out _ (by omega) (fun h => absurd h (by omega))
      have oc : Off w.heap.size (some ⟨cb, co, none⟩) (strCells R).length := by rw [strCells_length]; exact oR
      clear kx ky fx KS hbr hbr1 hw hbw b7w hbl hbf i2 o2 o2' hcell hx hy hz hr hs hC hb
      generalize (((((W2.setCell ⟨wr.heap.size, 0, none⟩ (.string (bs G.data))).setCell ⟨wr.heap.size, 1, none⟩ (.slice p2.a G.cache.length p2.c)).setCell ⟨wr.heap.size, 2, none⟩ (.int .i64 G.fuse)).setCell ⟨wr.heap.size, 3, none⟩ (.bool G.off)).setCell ⟨wr.heap.size, 4, none⟩ (.slice q2.a G.bad.length q2.c)) = U at *
      have kt := blk5 bt7
      have kd := blk5 bd7
      have fd := bd7.frozen
      by_cases he : er = 0
      · subst he
        go_wp2_with fail
        go_roundw
        case rel => exact ⟨i + 1, G, p2, q2, by omega, by go_num, Hn, Hnf, blk_set5 bd7 (.string (bs G.data)) (.slice p2.a G.cache.length p2.c) (.int .i64 G.fuse) (.bool G.off) (.slice q2.a G.bad.length q2.c), i7.off5 od (.string (bs G.data)) (.slice p2.a G.cache.length p2.c) (.int .i64 G.fuse) (.bool G.off) (.slice q2.a G.bad.length q2.c), H3', blk_off5 by7 (by omega) (.string (bs G.data)) (.slice p2.a G.cache.length p2.c) (.int .i64 G.fuse) (.bool G.off) (.slice q2.a G.bad.length q2.c), blk_off5 bz7 (by omega) (.string (bs G.data)) (.slice p2.a G.cache.length p2.c) (.int .i64 G.fuse) (.bool G.off) (.slice q2.a G.bad.length q2.c), blk_off5 br7 (by omega) (.string (bs G.data)) (.slice p2.a G.cache.length p2.c) (.int .i64 G.fuse) (.bool G.off) (.slice q2.a G.bad.length q2.c), blk_off5 bs7 (by omega) (.string (bs G.data)) (.slice p2.a G.cache.length p2.c) (.int .i64 G.fuse) (.bool G.off) (.slice q2.a G.bad.length q2.c), c7.off5 oc (.string (bs G.data)) (.slice p2.a G.cache.length p2.c) (.int .i64 G.fuse) (.bool G.off) (.slice q2.a G.bad.length q2.c), below_set5 b7 (Nat.le_refl _) (.string (bs G.data)) (.slice p2.a G.cache.length p2.c) (.int .i64 G.fuse) (.bool G.off) (.slice q2.a G.bad.length q2.c)⟩
        case measure => simp [intOf]; omega
      · have hX := Hst.out he
        have Hw := hid (show jrCommit D ⟨sj, pj⟩ L = (G, ⟨sj, pj⟩, er) by rw [Hw0.out, hX, if_pos he])
        have n1 : (er != 0) = true := by simpa using he
        have Hof := hid (fun b (hb : b < w.heap.size) (h : DkOff b D ⟨A1, a1⟩ ⟨A2, a2⟩) => H3'.out b (by omega) (fun _ => h))
        clear hX he Hst
        have kx9 := blk5 (blk_set5 bd7 (.string (bs G.data)) (.slice p2.a G.cache.length p2.c) (.int .i64 G.fuse) (.bool G.off) (.slice q2.a G.bad.length q2.c))
        have ky9 := blk2 (blk_off5 by7 (g := w.heap.size) (by omega) (.string (bs G.data)) (.slice p2.a G.cache.length p2.c) (.int .i64 G.fuse) (.bool G.off) (.slice q2.a G.bad.length q2.c))
        have rq := (blk_off5 br7 (g := w.heap.size) (by omega) (.string (bs G.data)) (.slice p2.a G.cache.length p2.c) (.int .i64 G.fuse) (.bool G.off) (.slice q2.a G.bad.length q2.c))
        have sq := (blk_off5 bs7 (g := w.heap.size) (by omega) (.string (bs G.data)) (.slice p2.a G.cache.length p2.c) (.int .i64 G.fuse) (.bool G.off) (.slice q2.a G.bad.length q2.c))
        have kr := blk5 rq
        have ks := blk2 sq
        have fr := rq.frozen
        have fs := sq.frozen
        go_wp2_with fail
        go_region
        have r7 := (blk_off2 (blk_set5 rq (.string (bs G.data)) (.slice p2.a G.cache.length p2.c) (.int .i64 G.fuse) (.bool G.off) (.slice q2.a G.bad.length q2.c)) (g := w.heap.size + 1 + 1 + 1 + 1) (by omega) (.int .u64 (sj : Int)) (.int .i64 pj)).drew
        have s7 := (blk_set2 (blk_off5 sq (g := w.heap.size + 1 + 1 + 1) (by omega) (.string (bs G.data)) (.slice p2.a G.cache.length p2.c) (.int .i64 G.fuse) (.bool G.off) (.slice q2.a G.bad.length q2.c)) (.int .u64 (sj : Int)) (.int .i64 pj)).drew
        have i7 := (((i7.off5 od (.string (bs G.data)) (.slice p2.a G.cache.length p2.c) (.int .i64 G.fuse) (.bool G.off) (.slice q2.a G.bad.length q2.c)).off5 or (.string (bs G.data)) (.slice p2.a G.cache.length p2.c) (.int .i64 G.fuse) (.bool G.off) (.slice q2.a G.bad.length q2.c)).off (a := ⟨w.heap.size + 1 + 1 + 1 + 1, 0, none⟩) os (.int .u64 (sj : Int))).off (a := ⟨w.heap.size + 1 + 1 + 1 + 1, 1, none⟩) os (.int .i64 pj)
        have B7 := (below_set2 (below_set5 (below_set5 b7 (Nat.le_refl _) (.string (bs G.data)) (.slice p2.a G.cache.length p2.c) (.int .i64 G.fuse) (.bool G.off) (.slice q2.a G.bad.length q2.c)) (g := w.heap.size + 1 + 1 + 1) (by omega) (.string (bs G.data)) (.slice p2.a G.cache.length p2.c) (.int .i64 G.fuse) (.bool G.off) (.slice q2.a G.bad.length q2.c)) (g := w.heap.size + 1 + 1 + 1 + 1) (by omega) (.int .u64 (sj : Int)) (.int .i64 pj)).drew
        have yr := blk5 r7
        have ys := blk2 s7
        go_wp2_with fail
        refine bodyPost_ret (v := .tuple #[dval G p2 q2, .agg #[.int .u64 (sj : Int), .int .i64 pj], .int .i64 er]) (by simp [results, Tryz.results73, go_sem, yr, ys]) rfl ?_
        exact ⟨⟨p2, q2, by rw [Hw.out], by rw [Hw.out]; exact i7.below (Below.refl _ _).drew, by rw [Hw.out]; exact fun b hb h => Hof.out b hb h⟩, B7⟩
  · obtain rfl : i = R.length := by omega
    have hL2 : Dk.layIn (rowsFrom (6 + at_) R) F = (E, 0) := by
     have := hE.out
     rwa [List.take_of_length_le (by rw [rowsFrom_length]; exact Nat.le_refl _)] at this
    have Hcom3 := hid (show X = Dk.next E.flush fun U => Pn.lay U L by rw [Hcom2.out, hL2, Dk.next_zero (X := (E, 0)) rfl])
    have hfE := fun (W : World) (h : IsDk W E pe qe) => r1_flush_n E pe qe W h hEf.out
    generalize E.flush = Y at *
    obtain ⟨H, h⟩ := Y
    clear hL2 hE hC kx ky fx c1 c2 hEf
    have hsl3 := hs.lt
    have kx5 := blk5 hx
    have ky5 := blk2 hy
    have kz5 := blk2 hz
    have kr5 := blk5 hr
    have ks5 := blk2 hs
    go_wp2_with fail
    go_at_call 54
    refine (hfE _ hIs).mono ?_
    rintro e w4 ⟨⟨p3, q3, rfl, i3, o3⟩, hb4⟩
    simp only at i3 o3
    have H3 := hid (fun b (g1 : b ≤ w.heap.size + 1 + 1 + 1 + 1) (g2 : b < w.heap.size → DkOff b D ⟨A1, a1⟩ ⟨A2, a2⟩) => o3 b (Nat.lt_of_le_of_lt g1 hsl3) (hoff.out b g1 g2))
    have od3 := H3.out w.heap.size (by omega) (fun h => absurd h (by omega))
    have or := H3.out (w.heap.size + 1 + 1 + 1) (by omega) (fun h => absurd h (by omega))
    have os := H3.out (w.heap.size + 1 + 1 + 1 + 1) (by omega) (fun h => absurd h (by omega))
    have Hof := hid (fun b (hb : b < w.heap.size) (h : DkOff b D ⟨A1, a1⟩ ⟨A2, a2⟩) => H3.out b (by omega) (fun _ => h))
    clear o3 hsl3
    have hx := hx.below hb4 hx.lt
    have hy := hy.below hb4 hy.lt
    have hz := hz.below hb4 hz.lt
    have hr := hr.below hb4 hr.lt
    have hs := hs.below hb4 hs.lt
    have hb := bt hb hb4
    clear kx5 ky5 kz5 kr5 ks5 hfE
    have kx5 := blk5 hx
    have ky5 := blk2 hy
    have kz5 := blk2 hz
    have kr5 := blk5 hr
    have ks5 := blk2 hs
    have fx := hx.frozen
    have hb_1 := below_set5 hb (g := w.heap.size) (by omega) (.string (bs H.data)) (.slice p3.a H.cache.length p3.c) (.int .i64 H.fuse) (.bool H.off) (.slice q3.a H.bad.length q3.c)
    have hx_2 := blk_set5 hx (.string (bs H.data)) (.slice p3.a H.cache.length p3.c) (.int .i64 H.fuse) (.bool H.off) (.slice q3.a H.bad.length q3.c)
    have kx5_2 := blk5 hx_2
    have hy_3 := blk_off5 hy (g := w.heap.size) (by omega) (.string (bs H.data)) (.slice p3.a H.cache.length p3.c) (.int .i64 H.fuse) (.bool H.off) (.slice q3.a H.bad.length q3.c)
    have ky5_3 := blk2 hy_3
    have hz_4 := blk_off5 hz (g := w.heap.size) (by omega) (.string (bs H.data)) (.slice p3.a H.cache.length p3.c) (.int .i64 H.fuse) (.bool H.off) (.slice q3.a H.bad.length q3.c)
    have kz5_4 := blk2 hz_4
    have hr_5 := blk_off5 hr (g := w.heap.size) (by omega) (.string (bs H.data)) (.slice p3.a H.cache.length p3.c) (.int .i64 H.fuse) (.bool H.off) (.slice q3.a H.bad.length q3.c)
    have kr5_5 := blk5 hr_5
    have hs_6 := blk_off5 hs (g := w.heap.size) (by omega) (.string (bs H.data)) (.slice p3.a H.cache.length p3.c) (.int .i64 H.fuse) (.bool H.off) (.slice q3.a H.bad.length q3.c)
    have ks5_6 := blk2 hs_6
    have i3_7 := i3.off5 (g := w.heap.size) (by first | assumption | omega) (.string (bs H.data)) (.slice p3.a H.cache.length p3.c) (.int .i64 H.fuse) (.bool H.off) (.slice q3.a H.bad.length q3.c)
    by_cases hh : h = 0
    case neg =>
     have hX : X = (H, h) := by rw [Hcom3.out, Dk.next_err (X := (H, h)) hh]
     have Hw := hid (show jrCommit D ⟨sj, pj⟩ L = (H, ⟨sj, pj⟩, h) by rw [Hw0.out, hX, if_pos hh])
     have n1 : (h != 0) = true := by simpa using hh
     clear hX hh
     have rq := hr_5
     have sq := hs_6
     have kr := blk5 rq
     have ks := blk2 sq
     have fr := rq.frozen
     have fs := sq.frozen
     go_wp2_with fail
     go_region
     have r7 := (blk_off2 (blk_set5 rq (.string (bs H.data)) (.slice p3.a H.cache.length p3.c) (.int .i64 H.fuse) (.bool H.off) (.slice q3.a H.bad.length q3.c)) (g := w.heap.size + 1 + 1 + 1 + 1) (by omega) (.int .u64 (sj : Int)) (.int .i64 pj)).drew
     have s7 := (blk_set2 (blk_off5 sq (g := w.heap.size + 1 + 1 + 1) (by omega) (.string (bs H.data)) (.slice p3.a H.cache.length p3.c) (.int .i64 H.fuse) (.bool H.off) (.slice q3.a H.bad.length q3.c)) (.int .u64 (sj : Int)) (.int .i64 pj)).drew
     have i7 := ((i3_7.off5 or (.string (bs H.data)) (.slice p3.a H.cache.length p3.c) (.int .i64 H.fuse) (.bool H.off) (.slice q3.a H.bad.length q3.c)).off (a := ⟨w.heap.size + 1 + 1 + 1 + 1, 0, none⟩) os (.int .u64 (sj : Int))).off (a := ⟨w.heap.size + 1 + 1 + 1 + 1, 1, none⟩) os (.int .i64 pj)
     have B7 := (below_set2 (below_set5 hb_1 (g := w.heap.size + 1 + 1 + 1) (by omega) (.string (bs H.data)) (.slice p3.a H.cache.length p3.c) (.int .i64 H.fuse) (.bool H.off) (.slice q3.a H.bad.length q3.c)) (g := w.heap.size + 1 + 1 + 1 + 1) (by omega) (.int .u64 (sj : Int)) (.int .i64 pj)).drew
     have yr := blk5 r7
     have ys := blk2 s7
     go_wp2_with fail
     refine bodyPost_ret (v := .tuple #[dval H p3 q3, .agg #[.int .u64 (sj : Int), .int .i64 pj], .int .i64 h]) (by simp [results, Tryz.results73, go_sem, yr, ys]) rfl ?_
     exact ⟨⟨p3, q3, by rw [Hw.out], by rw [Hw.out]; exact i7.below (Below.refl _ _).drew, by rw [Hw.out]; exact fun b hb h => Hof.out b hb h⟩, B7⟩
    subst hh
    have Hcom4 := hid (show X = Pn.lay H L by rw [Hcom3.out, Dk.next_zero (X := (H, 0)) rfl])
    have hly := fun (W : World) (h1 : IsDk W H p3 q3) (h2 : IsPn W L ⟨B1, b1⟩ ⟨B2, b2⟩) => r5_lay H L p3 q3 ⟨B1, b1⟩ ⟨B2, b2⟩ W h1 h2 Hld.out (by omega)
    rw [← Hcom4.out] at hly
    obtain ⟨K, k⟩ := X
    have hsl4 := hs_6.lt
    go_wp2_with fail
    go_at_call 53
    refine ((hly _ i3_7 (HL.out _ hb_1))).mono ?_
    rintro e w5 ⟨⟨p4, q4, rfl, i4, o4⟩, hb5⟩
    replace hb := bt hb_1 hb5
    replace hx := hx_2.below hb5 hx_2.lt
    replace kx5 := blk5 hx
    replace hy := hy_3.below hb5 hy_3.lt
    replace ky5 := blk2 hy
    replace hz := hz_4.below hb5 hz_4.lt
    replace kz5 := blk2 hz
    replace hr := hr_5.below hb5 hr_5.lt
    replace kr5 := blk5 hr
    replace hs := hs_6.below hb5 hs_6.lt
    replace ks5 := blk2 hs
    replace i3 := i3_7.below hb5
    clear hb_1 kx5_2 hx_2 ky5_3 hy_3 kz5_4 hz_4 kr5_5 hr_5 ks5_6 hs_6 i3_7
    simp only at i4 o4
    have H4 := hid (fun b (g1 : b ≤ w.heap.size + 1 + 1 + 1 + 1) (g2 : b < w.heap.size → DkOff b D ⟨A1, a1⟩ ⟨A2, a2⟩) => o4 b (Nat.lt_of_le_of_lt g1 hsl4) (H3.out b g1 g2))
    have od4 := H4.out w.heap.size (by omega) (fun h => absurd h (by omega))
    have or := H4.out (w.heap.size + 1 + 1 + 1) (by omega) (fun h => absurd h (by omega))
    have os := H4.out (w.heap.size + 1 + 1 + 1 + 1) (by omega) (fun h => absurd h (by omega))
    have Hof := hid (fun b (hb : b < w.heap.size) (h : DkOff b D ⟨A1, a1⟩ ⟨A2, a2⟩) => H4.out b (by omega) (fun _ => h))
    clear o4 hsl4
    have fx := hx.frozen
    have hb_8 := below_set5 hb (g := w.heap.size) (by omega) (.string (bs K.data)) (.slice p4.a K.cache.length p4.c) (.int .i64 K.fuse) (.bool K.off) (.slice q4.a K.bad.length q4.c)
    have hx_9 := blk_set5 hx (.string (bs K.data)) (.slice p4.a K.cache.length p4.c) (.int .i64 K.fuse) (.bool K.off) (.slice q4.a K.bad.length q4.c)
    have kx5_9 := blk5 hx_9
    have hy_10 := blk_off5 hy (g := w.heap.size) (by omega) (.string (bs K.data)) (.slice p4.a K.cache.length p4.c) (.int .i64 K.fuse) (.bool K.off) (.slice q4.a K.bad.length q4.c)
    have ky5_10 := blk2 hy_10
    have hz_11 := blk_off5 hz (g := w.heap.size) (by omega) (.string (bs K.data)) (.slice p4.a K.cache.length p4.c) (.int .i64 K.fuse) (.bool K.off) (.slice q4.a K.bad.length q4.c)
    have kz5_11 := blk2 hz_11
    have hr_12 := blk_off5 hr (g := w.heap.size) (by omega) (.string (bs K.data)) (.slice p4.a K.cache.length p4.c) (.int .i64 K.fuse) (.bool K.off) (.slice q4.a K.bad.length q4.c)
    have kr5_12 := blk5 hr_12
    have hs_13 := blk_off5 hs (g := w.heap.size) (by omega) (.string (bs K.data)) (.slice p4.a K.cache.length p4.c) (.int .i64 K.fuse) (.bool K.off) (.slice q4.a K.bad.length q4.c)
    have ks5_13 := blk2 hs_13
    have i4_14 := i4.off5 (g := w.heap.size) (by first | assumption | omega) (.string (bs K.data)) (.slice p4.a K.cache.length p4.c) (.int .i64 K.fuse) (.bool K.off) (.slice q4.a K.bad.length q4.c)
    by_cases hk0 : k = 0
    case neg =>
     have Hw := hid (show jrCommit D ⟨sj, pj⟩ L = (K, ⟨sj, pj⟩, k) by rw [Hw0.out, if_pos hk0])
     have n1 : (k != 0) = true := by simpa using hk0
     clear hk0
     have rq := hr_12
     have sq := hs_13
     have kr := blk5 rq
     have ks := blk2 sq
     have fr := rq.frozen
     have fs := sq.frozen
     go_wp2_with fail
     go_region
     have r7 := (blk_off2 (blk_set5 rq (.string (bs K.data)) (.slice p4.a K.cache.length p4.c) (.int .i64 K.fuse) (.bool K.off) (.slice q4.a K.bad.length q4.c)) (g := w.heap.size + 1 + 1 + 1 + 1) (by omega) (.int .u64 (sj : Int)) (.int .i64 pj)).drew
     have s7 := (blk_set2 (blk_off5 sq (g := w.heap.size + 1 + 1 + 1) (by omega) (.string (bs K.data)) (.slice p4.a K.cache.length p4.c) (.int .i64 K.fuse) (.bool K.off) (.slice q4.a K.bad.length q4.c)) (.int .u64 (sj : Int)) (.int .i64 pj)).drew
     have i7 := ((i4_14.off5 or (.string (bs K.data)) (.slice p4.a K.cache.length p4.c) (.int .i64 K.fuse) (.bool K.off) (.slice q4.a K.bad.length q4.c)).off (a := ⟨w.heap.size + 1 + 1 + 1 + 1, 0, none⟩) os (.int .u64 (sj : Int))).off (a := ⟨w.heap.size + 1 + 1 + 1 + 1, 1, none⟩) os (.int .i64 pj)
     have B7 := (below_set2 (below_set5 hb_8 (g := w.heap.size + 1 + 1 + 1) (by omega) (.string (bs K.data)) (.slice p4.a K.cache.length p4.c) (.int .i64 K.fuse) (.bool K.off) (.slice q4.a K.bad.length q4.c)) (g := w.heap.size + 1 + 1 + 1 + 1) (by omega) (.int .u64 (sj : Int)) (.int .i64 pj)).drew
     have yr := blk5 r7
     have ys := blk2 s7
     go_wp2_with fail
     refine bodyPost_ret (v := .tuple #[dval K p4 q4, .agg #[.int .u64 (sj : Int), .int .i64 pj], .int .i64 k]) (by simp [results, Tryz.results73, go_sem, yr, ys]) rfl ?_
     exact ⟨⟨p4, q4, by rw [Hw.out], by rw [Hw.out]; exact i7.below (Below.refl _ _).drew, by rw [Hw.out]; exact fun b hb h => Hof.out b hb h⟩, B7⟩
    subst hk0
    have Hw := hid (show jrCommit D ⟨sj, pj⟩ L = (K, ⟨sj + 1, at_ + (R.length : Int)⟩, 0) by rw [Hw0.out, if_neg (by simp)])
    have rq := hr_12
    have sq := hs_13
    have kr := blk5 rq
    have ks := blk2 sq
    have fr := rq.frozen
    have fs := sq.frozen
    go_wp2_with fail
    go_region
    have r7 := (blk_off2 (blk_set5 rq (.string (bs K.data)) (.slice p4.a K.cache.length p4.c) (.int .i64 K.fuse) (.bool K.off) (.slice q4.a K.bad.length q4.c)) (g := w.heap.size + 1 + 1 + 1 + 1) (by omega) (.int .u64 ((sj : Int) + 1)) (.int .i64 (at_ + (R.length : Int)))).drew
    have s7 := (blk_set2 (blk_off5 sq (g := w.heap.size + 1 + 1 + 1) (by omega) (.string (bs K.data)) (.slice p4.a K.cache.length p4.c) (.int .i64 K.fuse) (.bool K.off) (.slice q4.a K.bad.length q4.c)) (.int .u64 ((sj : Int) + 1)) (.int .i64 (at_ + (R.length : Int)))).drew
    have i7 := ((i4_14.off5 or (.string (bs K.data)) (.slice p4.a K.cache.length p4.c) (.int .i64 K.fuse) (.bool K.off) (.slice q4.a K.bad.length q4.c)).off (a := ⟨w.heap.size + 1 + 1 + 1 + 1, 0, none⟩) os (.int .u64 ((sj : Int) + 1))).off (a := ⟨w.heap.size + 1 + 1 + 1 + 1, 1, none⟩) os (.int .i64 (at_ + (R.length : Int)))
    have B7 := (below_set2 (below_set5 hb_8 (g := w.heap.size + 1 + 1 + 1) (by omega) (.string (bs K.data)) (.slice p4.a K.cache.length p4.c) (.int .i64 K.fuse) (.bool K.off) (.slice q4.a K.bad.length q4.c)) (g := w.heap.size + 1 + 1 + 1 + 1) (by omega) (.int .u64 ((sj : Int) + 1)) (.int .i64 (at_ + (R.length : Int)))).drew
    have yr := blk5 r7
    have ys := blk2 s7
    go_wp2_with fail
    refine bodyPost_ret (v := .tuple #[dval K p4 q4, .agg #[.int .u64 ((sj : Int) + 1), .int .i64 (at_ + (R.length : Int))], .int .i64 0]) (by simp [results, Tryz.results73, go_sem, yr, ys]) rfl ?_
    exact ⟨⟨p4, q4, by rw [Hw.out]; rfl, by rw [Hw.out]; exact i7.below (Below.refl _ _).drew, by rw [Hw.out]; exact fun b hb h => Hof.out b hb h⟩, B7⟩
theorem r7_commit (D : Dk) (j : Jr) (L : Pn) (p q p' q' : Pl) (w : World) (hD : IsDk w D p q) (hL : IsPn w L p' q') (hf : D.fit = true) (hfl : L.Fit) (h1 : j.seq < 18446744073709551616) (h2 : -9223372036854775808 ≤ j.pos ∧ j.pos ≤ 9223372036854775807) :
 Calls Tryz.prog 73 #[dval D p q, jval j, pval L p' q'] w fun e w' => RetJr w.heap.size D p q (jrCommit D j L) e w' ∧ Below w.heap.size w w' := by
 by_cases h0 : L.targets = []
 · exact r7_commit_none D j L p q p' q' w hD h0
 · rcases Nat.lt_or_ge j.seq 4611686018427387904 with h | h
   · exact r7_commit_do D j L p q p' q' w hD hL hf hfl h0 h h2
   · exact r7_commit_full D j L p q p' q' w hD h0 hfl.2.1 h h1
end Go.Proofs.YtlapjkbefkmohaaGreat
