/- Package cofferdamref07: a replay. -/
import Derived.Test.YtplgmlcoeehnfaaGreatJour12
set_option linter.unusedVariables false
namespace Go.Proofs.YtplgmlcoeehnfaaGreat
open Go.RowKit Go.Shelf
attribute [local go_sem] bs_mk bs_append bs_extract bs_size bs_toList bs_get
set_option maxRecDepth 100000 in
set_option maxHeartbeats 4000000 in
theorem r7_replay (D : Dk) (p q : Pl) (w : World) (hD : IsDk w D p q) (hf : D.fit = true) :
    Calls Tryz.prog 43 #[dval D p q] w fun e w' => RetJr w.heap.size D p q (jrReplay D) e w' ∧ Below w.heap.size w w' := by
  have hscan := fun (W : World) (hb : Below w.heap.size w W) => r7_scan D p q W (hD.below hb) hf
  have hflush := fun (E : Dk) (p1 q1 : Pl) (W : World) (hE : IsDk W E p1 q1) (hEf : E.fit = true) => r1_flush_n E p1 q1 W hE hEf
  have hlay := fun (E : Dk) (L : Pn) (p1 q1 p2 q2 : Pl) (W : World) (hE : IsDk W E p1 q1) (hL : IsPn W L p2 q2) (h1 : L.targets.length = L.data.length) (h2 : L.targets.length ≤ 1000000) => r5_lay E L p1 q1 p2 q2 W hE hL h1 h2
  have Hok := hid (fun (x : Nat × Tx) (h : x ∈ (jrScan D).1) => jrScan_ok h)
  have Hlen := hid (jrScan_len D)
  have Hpos := hid (fun (x : Nat × Tx) (h : x ∈ (jrScan D).1) => jrScan_pos h)
  have hap := hid (fun g (hg : w.heap.size ≤ g) => hD.apart hg)
  have HD := hid hD
  obtain ⟨⟨fs, er⟩, hS⟩ : ∃ X, jrScan D = X := ⟨_, rfl⟩
  have HS := hid hS
  rw [hS] at hscan Hok Hlen Hpos
  have Hf := hid hf
  clear hS hD hf
  go_enter Tryz.func43, Tryz.ntmps43
  have hB := Below.refl w.heap.size w
  have x := Blk.new w 25 #[.string (bs D.data), .slice p.a D.cache.length p.c, .int .i64 D.fuse, .bool D.off, .slice q.a D.bad.length q.c]
  have xk := blk5 x
  have hB_1 := hB.alloc hB.size (.cells #[.string (bs D.data), .slice p.a D.cache.length p.c, .int .i64 D.fuse, .bool D.off, .slice q.a D.bad.length q.c] 25)
  have r := Blk.new (w.alloc (.cells #[.string (bs D.data), .slice p.a D.cache.length p.c, .int .i64 D.fuse, .bool D.off, .slice q.a D.bad.length q.c] 25)) 25 #[.string (bs []), .slice none 0 0, .int .i64 0, .bool false, .slice none 0 0]
  simp only [World.size_alloc] at r
  have rk := blk5 r
  have rkf := r.frozen
  have hB_2 := hB_1.alloc hB_1.size (.cells #[.string (bs []), .slice none 0 0, .int .i64 0, .bool false, .slice none 0 0] 25)
  have x_3 := x.alloc (.cells #[.string (bs []), .slice none 0 0, .int .i64 0, .bool false, .slice none 0 0] 25)
  have xk_3 := blk5 x_3
  have s := Blk.new ((w.alloc (.cells #[.string (bs D.data), .slice p.a D.cache.length p.c, .int .i64 D.fuse, .bool D.off, .slice q.a D.bad.length q.c] 25)).alloc (.cells #[.string (bs []), .slice none 0 0, .int .i64 0, .bool false, .slice none 0 0] 25)) 72 #[.int .u64 0, .int .i64 0]
  simp only [World.size_alloc] at s
  have sk := blk2 s
  have skf := s.frozen
  have hB_4 := hB_2.alloc hB_2.size (.cells #[.int .u64 0, .int .i64 0] 72)
  have x_5 := x_3.alloc (.cells #[.int .u64 0, .int .i64 0] 72)
  have xk_5 := blk5 x_5
  have r_6 := r.alloc (.cells #[.int .u64 0, .int .i64 0] 72)
  have rk_6 := blk5 r_6
  have rkf_6 := r_6.frozen
  have n := Blk.new (((w.alloc (.cells #[.string (bs D.data), .slice p.a D.cache.length p.c, .int .i64 D.fuse, .bool D.off, .slice q.a D.bad.length q.c] 25)).alloc (.cells #[.string (bs []), .slice none 0 0, .int .i64 0, .bool false, .slice none 0 0] 25)).alloc (.cells #[.int .u64 0, .int .i64 0] 72)) 72 #[.int .u64 1, .int .i64 0]
  simp only [World.size_alloc] at n
  have nk := blk2 n
  have hB_7 := hB_4.alloc hB_4.size (.cells #[.int .u64 1, .int .i64 0] 72)
  have x_8 := x_5.alloc (.cells #[.int .u64 1, .int .i64 0] 72)
  have xk_8 := blk5 x_8
  have r_9 := r_6.alloc (.cells #[.int .u64 1, .int .i64 0] 72)
  have rk_9 := blk5 r_9
  have rkf_9 := r_9.frozen
  have s_10 := s.alloc (.cells #[.int .u64 1, .int .i64 0] 72)
  have sk_10 := blk2 s_10
  have skf_10 := s_10.frozen
  go_wp2_with fail
  go_at_call 41
  refine ((hscan _ hB_7)).mono ?_
  rintro e w1 ⟨⟨L, v, hLm, rfl, hown, hok⟩, hb1⟩
  replace hB := bt hB_7 hb1
  replace x := x_8.below hb1 x_8.lt
  replace xk := blk5 x
  replace r := r_9.below hb1 r_9.lt
  replace rk := blk5 r
  replace rkf := r.frozen
  replace s := s_10.below hb1 s_10.lt
  replace sk := blk2 s
  replace skf := s.frozen
  replace n := n.below hb1 n.lt
  replace nk := blk2 n
  clear hB_1 hB_2 xk_3 x_3 hB_4 xk_5 x_5 rk_6 rkf_6 r_6 hB_7 xk_8 x_8 rk_9 rkf_9 r_9 sk_10 skf_10 s_10
  have hLm : L.map Fd.it = fs := hLm
  subst hLm
  have s1 := hb1.size
  simp only [World.size_alloc] at s1
  have Hgn := hid (show w.heap.size + 1 + 1 + 1 < w1.heap.size by omega)
  have j1 := Blk.new w1 72 #[.int .u64 1, .int .i64 0]
  have hj1 := (Below.refl w1.heap.size w1).alloc (Nat.le_refl _) (.cells #[.int .u64 1, .int .i64 0] 72)
  have St : RpSt w (w1.alloc (.cells #[.int .u64 1, .int .i64 0] 72)) D p q D p q w1.heap.size 1 0 :=
    ⟨(x.below hj1 x.lt), (r.below hj1 r.lt), (s.below hj1 s.lt), (n.below hj1 n.lt), j1, by omega, HD.out.below (hB.trans (hj1.mono hB.size)), fun g hg _ => hap.out g hg, fun g _ h => h, hB.trans (hj1.mono hB.size)⟩
  by_cases he : er = 0
  case neg =>
    have n1 : (er != 0) = true := by simpa using he
    have Hw := hid (jrReplay_err HS.out he)
    clear he
    have St0 : RpSt w w1 D p q D p q (w.heap.size + 1 + 1 + 1) 1 0 := ⟨x, r, s, n, n, by omega, HD.out.below hB, fun g hg _ => hap.out g hg, fun g _ h => h, hB⟩
    go_wp2_with fail
    clear x xk r rk rkf s sk skf n nk j1 hj1 St s1

    have kx9 := blk5 St0.x
    have kn9 := blk2 St0.n
    have kj9 := blk2 St0.j
    have kr9 := blk5 St0.r
    have fr9 := St0.r.frozen
    have ks9 := blk2 St0.s
    have fs9 := St0.s.frozen
    have hj9 := St0.hj
    have na9 : ¬ (w.heap.size + 1 + 1 + 1) = w.heap.size + 1 := by omega
    have nb9 : ¬ w.heap.size + 1 = (w.heap.size + 1 + 1 + 1) := by omega
    have nc9 : ¬ (w.heap.size + 1 + 1 + 1) = w.heap.size + 1 + 1 := by omega
    have nd9 : ¬ w.heap.size + 1 + 1 = (w.heap.size + 1 + 1 + 1) := by omega
    obtain ⟨Z9, hZ9, r9, s9, i9, b9⟩ := St0.fin (1) (0)
    go_region
    rw [← hZ9]
    have yr9 := blk5 r9
    have ys9 := blk2 s9
    clear kx9 kn9 kj9 kr9 fr9 ks9 fs9 hZ9 hj9 na9 nb9 nc9 nd9
    go_wp2_with fail
    refine bodyPost_ret (v := .tuple #[dval D p q, .agg #[.int .u64 (1), .int .i64 (0)], .int .i64 er]) (by simp [results, Tryz.results43, go_sem, yr9, ys9]) rfl ?_
    exact ⟨⟨p, q, by rw [Hw.out]; rfl, by rw [Hw.out]; exact i9, by rw [Hw.out]; exact St0.old⟩, b9⟩
  subst he
  cases L with
  | nil =>
    obtain ⟨AL, cL, rfl, _⟩ := own_slice hown
    have Hsteps := hid (show jrSteps D ([].map Fd.it) = (D, 0) from rfl)
    have HEf := hid Hf.out
    have Hnext := hid (show jrNext ([].map Fd.it) = ⟨1, 0⟩ from rfl)
    have kxa := blk5 St.x
    go_wp2_with fail
    clear x xk r rk rkf s sk skf n nk j1 hj1 s1 hown hok kxa
    generalize w1.alloc (.cells #[.int .u64 1, .int .i64 0] 72) = U at St ⊢
    clear hB hb1

    obtain ⟨⟨F, ef⟩, hF⟩ : ∃ X, D.flush = X := ⟨_, rfl⟩
    have hcF := hflush D p q U St.is HEf.out
    rw [hF] at hcF
    have Hend := hid (jrReplay_end HS.out Hsteps.out hF)
    clear hF
    have kxF := blk5 St.x
    go_wp2_with fail
    go_at_call 81
    refine hcF.mono ?_
    rintro e U2 ⟨⟨p4, q4, rfl, i4, o4⟩, hb4⟩
    have St3 := St.later hb4
    have St4 := St3.put i4 (fun g hg h => o4 g (by have := St.j.lt; omega) h)
    have kxF2 := blk5 St3.x
    have fxF2 := St3.x.frozen
    clear kxF hcF
    by_cases hef : ef = 0
    · subst hef
      have Hw9 := hid (show jrReplay D = (F, ⟨1, 0⟩, 0) by rw [Hend.out, if_neg (by simp), Hnext.out])
      go_wp2_with fail
      clear kxF2 fxF2
      generalize ((((U2.setCell ⟨w.heap.size, 0, none⟩ (.string (bs F.data))).setCell ⟨w.heap.size, 1, none⟩ (.slice p4.a F.cache.length p4.c)).setCell ⟨w.heap.size, 2, none⟩ (.int .i64 F.fuse)).setCell ⟨w.heap.size, 3, none⟩ (.bool F.off)).setCell ⟨w.heap.size, 4, none⟩ (.slice q4.a F.bad.length q4.c) = U3 at St4 ⊢
      have kx9 := blk5 St4.x
      have kn9 := blk2 St4.n
      have kj9 := blk2 St4.j
      have kr9 := blk5 St4.r
      have fr9 := St4.r.frozen
      have ks9 := blk2 St4.s
      have fs9 := St4.s.frozen
      have hj9 := St4.hj
      have na9 : ¬ w1.heap.size = w.heap.size + 1 := by omega
      have nb9 : ¬ w.heap.size + 1 = w1.heap.size := by omega
      have nc9 : ¬ w1.heap.size = w.heap.size + 1 + 1 := by omega
      have nd9 : ¬ w.heap.size + 1 + 1 = w1.heap.size := by omega
      obtain ⟨Z9, hZ9, r9, s9, i9, b9⟩ := St4.fin (1) (0)
      go_region
      rw [← hZ9]
      have yr9 := blk5 r9
      have ys9 := blk2 s9
      clear kx9 kn9 kj9 kr9 fr9 ks9 fs9 hZ9 hj9 na9 nb9 nc9 nd9
      go_wp2_with fail
      refine bodyPost_ret (v := .tuple #[dval F p4 q4, .agg #[.int .u64 (1), .int .i64 (0)], .int .i64 0]) (by simp [results, Tryz.results43, go_sem, yr9, ys9]) rfl ?_
      exact ⟨⟨p4, q4, by rw [Hw9.out]; rfl, by rw [Hw9.out]; exact i9, by rw [Hw9.out]; exact St4.old⟩, b9⟩
    · have nF : (ef != 0) = true := by simpa using hef
      have Hw9 := hid (show jrReplay D = (F, Jr.none, ef) by rw [Hend.out, if_pos hef])
      clear hef
      go_wp2_with fail
      clear kxF2 fxF2
      generalize ((((U2.setCell ⟨w.heap.size, 0, none⟩ (.string (bs F.data))).setCell ⟨w.heap.size, 1, none⟩ (.slice p4.a F.cache.length p4.c)).setCell ⟨w.heap.size, 2, none⟩ (.int .i64 F.fuse)).setCell ⟨w.heap.size, 3, none⟩ (.bool F.off)).setCell ⟨w.heap.size, 4, none⟩ (.slice q4.a F.bad.length q4.c) = U3 at St4 ⊢
      have kx9 := blk5 St4.x
      have kn9 := blk2 St4.n
      have kj9 := blk2 St4.j
      have kr9 := blk5 St4.r
      have fr9 := St4.r.frozen
      have ks9 := blk2 St4.s
      have fs9 := St4.s.frozen
      have hj9 := St4.hj
      have na9 : ¬ w1.heap.size = w.heap.size + 1 := by omega
      have nb9 : ¬ w.heap.size + 1 = w1.heap.size := by omega
      have nc9 : ¬ w1.heap.size = w.heap.size + 1 + 1 := by omega
      have nd9 : ¬ w.heap.size + 1 + 1 = w1.heap.size := by omega
      obtain ⟨Z9, hZ9, r9, s9, i9, b9⟩ := St4.fin (1) (0)
      go_region
      rw [← hZ9]
      have yr9 := blk5 r9
      have ys9 := blk2 s9
      clear kx9 kn9 kj9 kr9 fr9 ks9 fs9 hZ9 hj9 na9 nb9 nc9 nd9
      go_wp2_with fail
      refine bodyPost_ret (v := .tuple #[dval F p4 q4, .agg #[.int .u64 (1), .int .i64 (0)], .int .i64 ef]) (by simp [results, Tryz.results43, go_sem, yr9, ys9]) rfl ?_
      exact ⟨⟨p4, q4, by rw [Hw9.out]; rfl, by rw [Hw9.out]; exact i9, by rw [Hw9.out]; exact St4.old⟩, b9⟩
  | cons a l =>
    have hne : a :: l ≠ [] := by intro h; cases h
    have hlp : 0 < (a :: l).length := by simp
    generalize a :: l = L at *
    rcases hown.2 with ⟨h', h''⟩ | ⟨fb, cL, cur, rfl, _⟩
    · omega
    have Row : FdRow (w1.alloc (.cells #[.int .u64 1, .int .i64 0] 72)) _ fb cL L := ⟨own_later hown hj1, hok.below hj1⟩
    have hokx : ∀ x ∈ L, x.tx.Ok ∧ x.tx.seq < 18446744073709551616 := fun x hx => Hok.out x.it (List.mem_map.2 ⟨x, hx, rfl⟩)
    have hplan : ∀ x ∈ L, x.tx.plan.targets.length = x.tx.plan.data.length ∧ x.tx.plan.targets.length ≤ 1000000 := fun x hx => ⟨(hokx x hx).1.1.1, Nat.le_trans (hokx x hx).1.1.2.1 (by decide)⟩
    have Hplan := hid hplan
    clear hplan
    have hokl : ∀ x ∈ L, 0 < x.tx.plan.targets.length ∧ x.tx.seq < 18446744073709551616 := fun x hx => ⟨List.length_pos_iff.2 (hokx x hx).1.2, (hokx x hx).2⟩
    have Hokl := hid hokl
    have hL81 : L.length ≤ 81 := by have := Hlen.out; rwa [List.length_map] at this
    have hla := fun (W : World) (h : Cells W (some ⟨fb, 0, none⟩) (fdCells L)) => r7_last L (some ⟨fb, 0, none⟩) cL W h hne (by omega) hokl
    go_wp2_with fail
    clear x xk r rk rkf s sk skf n nk j1 hj1 s1 hown hok
    generalize w1.alloc (.cells #[.int .u64 1, .int .i64 0] 72) = U at St Row ⊢
    clear hB hb1
    obtain ⟨gj9, hgj9⟩ : ∃ g, g = w1.heap.size := ⟨_, rfl⟩
    have Hgj := hid hgj9
    clear hgj9
    go_at_call 96
    refine (hla U (Cells.of_own Row.own)).mono ?_
    rintro e U1 ⟨⟨k, hk, i, rfl, hlast, hbef⟩, hbU⟩
    have St1 := St.later hbU
    have Row1 := Row.later hbU
    clear hla
    rcases hbef with ⟨rfl, hbn⟩ | ⟨jx, hjx, rfl, hbs⟩
    · have Hs1 := hid (show jrSteps D (L.map Fd.it) = Pn.lay D L[k].tx.plan by
        unfold jrSteps
        rw [hlast]
        simp only
        rw [show L[k].it.2.seq = L[k].tx.seq from rfl, hbn]
        rfl)

      obtain ⟨yA, hyA⟩ : ∃ y, L[k] = y := ⟨_, rfl⟩
      have hmA := Row1.cells k hk
      have hdA := Row1.ok _ (List.getElem_mem hk)
      have hlA := Hplan.out _ (List.getElem_mem hk)
      rw [hyA] at hmA hdA hlA
      have HyA := hid hyA
      obtain ⟨⟨GA, eA⟩, hGA⟩ : ∃ X, Pn.lay D yA.tx.plan = X := ⟨_, rfl⟩
      have hcA := fun (W : World) (hW : Below U1.heap.size U1 W) => hlay D yA.tx.plan p q yA.p yA.q W (St1.is.below hW) (hdA.pn.below hW) hlA.1 hlA.2
      simp only [hGA] at hcA
      have HGA := hid hGA
      clear hGA hyA hlA
      have KSA := fun (W : World) (hW : Below U1.heap.size U1 W) => blk5 (St1.x.below hW St1.x.lt)
      have KRA := fun (W : World) (hW : Below U1.heap.size U1 W) => And.intro (cell_below hW hmA.2.2.1) (cell_below hW hmA.2.2.2)
      have hgjA := St1.j.lt
      have hEA := hid St1.is
      have kxA := blk5 St1.x
      clear hmA
      go_upto_region 13 with fail
      go_cut [13, 14] (fun sx sy wx => LayMade U1 D p q GA eA sx sy wx)
      case first =>
        have s0 : Below U1.heap.size U1 U1.drew := (Below.refl _ _).drew
        refine wp_region_late (S := fun W => Below U1.heap.size U1 W) (late := fun i => i == 12) (by kernel_rfl) ?_
        clear kxA
        generalize U1.drew = U0 at s0 ⊢
        simp only [List.size_toArray, List.length_cons, List.length_nil, Nat.reduceAdd, Array.replicate_succ, Array.replicate_zero, List.push_toArray, List.nil_append, List.cons_append]
        refine wpLate_take (i := 0) (oi := _) (v := dval D p q) (d := some 56) rfl rfl (by kernel_rfl) (by kernel_rfl) (by kernel_rfl) (by kernel_rfl) (fun _ _ _ h => h) rfl (fun W hW => by have h := KSA W hW; go_simp) s0 ?_
        simp only [Act.put, List.setIfInBounds_toArray, List.set_cons_zero, List.set_cons_succ]
        refine wpLate_take0 (i := 1) (oi := _) (v := .slice (some ⟨fb, 0, none⟩) L.length cL) (d := some 57) rfl rfl (by kernel_rfl) (by kernel_rfl) (by kernel_rfl) (fun _ _ _ h => h) rfl (fun W => by rfl) ?_
        simp only [Act.put, List.setIfInBounds_toArray, List.set_cons_zero, List.set_cons_succ]
        refine wpLate_take0 (i := 2) (oi := _) (v := .int .i64 (k : Int)) (d := some 58) rfl rfl (by kernel_rfl) (by kernel_rfl) (by kernel_rfl) (fun _ _ _ h => h) rfl (fun W => by rfl) ?_
        simp only [Act.put, List.setIfInBounds_toArray, List.set_cons_zero, List.set_cons_succ]
        refine wpLate_take0 (i := 3) (oi := _) (v := .pointer (some ⟨fb, k * 4, none⟩)) (d := some 59) rfl rfl (by kernel_rfl) (by kernel_rfl) (by kernel_rfl) (fun _ _ _ h => h) rfl (fun W => by go_simp) ?_
        simp only [Act.put, List.setIfInBounds_toArray, List.set_cons_zero, List.set_cons_succ]
        refine wpLate_take0 (i := 4) (oi := _) (v := .pointer (some ⟨fb, k * 4 + 1, none⟩)) (d := some 60) rfl rfl (by kernel_rfl) (by kernel_rfl) (by kernel_rfl) (fun _ _ _ h => h) rfl (fun W => by go_simp) ?_
        simp only [Act.put, List.setIfInBounds_toArray, List.set_cons_zero, List.set_cons_succ]
        refine wpLate_take0 (i := 5) (oi := _) (v := .pointer (some ⟨fb, k * 4 + 1 + 1, none⟩)) (d := some 61) rfl rfl (by kernel_rfl) (by kernel_rfl) (by kernel_rfl) (fun _ _ _ h => h) rfl (fun W => by go_simp) ?_
        simp only [Act.put, List.setIfInBounds_toArray, List.set_cons_zero, List.set_cons_succ]
        refine wpLate_take (i := 6) (oi := _) (v := pval yA.tx.plan yA.p yA.q) (d := some 62) rfl rfl (by kernel_rfl) (by kernel_rfl) (by kernel_rfl) (by kernel_rfl) (fun _ _ _ h => h) rfl (fun W hW => by have h := KRA W hW; go_simp) s0 ?_
        simp only [Act.put, List.setIfInBounds_toArray, List.set_cons_zero, List.set_cons_succ]
        refine wpLate_two (i := 7) (k := 11) (by kernel_rfl) rfl rfl rfl rfl (fun K hK => ?_) (fun K hK => ?_)
        · skip
          refine oper_enter' (f := 85) (args := #[dval D p q, pval yA.tx.plan yA.p yA.q]) (w' := U0) (by go_simp) ((hcA U0 s0).mono ?_)
          rintro e U3 ⟨⟨p2, q2, rfl, i2, o2⟩, hb⟩
          have o4 : ∀ h, h < U1.heap.size → DkOff h D p q → DkOff h GA p2 q2 := fun h hh ho => o2 h (Nat.lt_of_lt_of_le hh s0.size) ho
          clear o2
          refine ⟨_, rfl, ?_⟩
          show K (Act.put _ (some 63) _) _
          have s1 := bt s0 hb
          refine hK _ _ (fun _ _ => s1) ?_
          simp only [Act.put, List.setIfInBounds_toArray, List.set_cons_zero, List.set_cons_succ]
          refine wpLate_take0 (i := 8) (oi := _) (v := .tuple #[dval GA p2 q2, .int .i64 eA]) (d := some 55) rfl rfl (by kernel_rfl) (by kernel_rfl) (by kernel_rfl) (fun _ _ _ h => h) rfl (fun W => by rfl) ?_
          simp only [Act.put, List.setIfInBounds_toArray, List.set_cons_zero, List.set_cons_succ]
          refine wpLate_take0 (i := 9) (oi := _) (v := dval GA p2 q2) (d := some 64) rfl rfl (by kernel_rfl) (by kernel_rfl) (by kernel_rfl) (fun _ _ _ h => h) rfl (fun W => by rfl) ?_
          simp only [Act.put, List.setIfInBounds_toArray, List.set_cons_zero, List.set_cons_succ]
          refine wpLate_take0 (i := 10) (oi := _) (v := .int .i64 eA) (d := some 65) rfl rfl (by kernel_rfl) (by kernel_rfl) (by kernel_rfl) (fun _ _ _ h => h) rfl (fun W => by rfl) ?_
          simp only [Act.put, List.setIfInBounds_toArray, List.set_cons_zero, List.set_cons_succ]
          refine wpLate_one (i := 11) (by kernel_rfl) rfl rfl (fun K hK => ?_)
          refine oper_ran (v := .pointer (some ⟨U3.heap.size, 0, none⟩)) (w' := U3.alloc (.cells #[.string (bs []), .slice none 0 0, .int .i64 0, .bool false, .slice none 0 0] 25)) (by go_simp) ?_
          show K (Act.put _ (some 13) _) _
          have s2 := s1.alloc s1.size (.cells #[.string (bs []), .slice none 0 0, .int .i64 0, .bool false, .slice none 0 0] 25)
          have b2 := Blk.new U3 25 #[.string (bs []), .slice none 0 0, .int .i64 0, .bool false, .slice none 0 0]
          have gb0 : U1.heap.size ≤ U3.heap.size := s1.size
          have oB := i2.apart (g := U3.heap.size) (Nat.le_refl _)
          replace i2 := i2.below ((Below.refl U3.heap.size U3).alloc (Nat.le_refl _) (.cells #[.string (bs []), .slice none 0 0, .int .i64 0, .bool false, .slice none 0 0] 25))
          refine hK _ _ (fun _ _ => s2) ?_
          generalize U3.alloc (.cells #[.string (bs []), .slice none 0 0, .int .i64 0, .bool false, .slice none 0 0] 25) = U4 at s2 b2 i2 ⊢
          generalize U3.heap.size = gb at b2 gb0 oB ⊢
          simp only [Act.put, List.setIfInBounds_toArray, List.set_cons_zero, List.set_cons_succ]
          refine wpLate_one (i := 12) (by kernel_rfl) rfl rfl (fun K hK => ?_)
          refine oper_skip (w' := ((((U4.setCell ⟨gb, 0, none⟩ (.string (bs GA.data))).setCell ⟨gb, 1, none⟩ (.slice p2.a GA.cache.length p2.c)).setCell ⟨gb, 2, none⟩ (.int .i64 GA.fuse)).setCell ⟨gb, 3, none⟩ (.bool GA.off)).setCell ⟨gb, 4, none⟩ (.slice q2.a GA.bad.length q2.c)) (by have k0 := blk5 b2; have f0 := b2.frozen; have c1 := b2.set 0 (.string (bs GA.data)); have f1 := c1.frozen; have k1 := blk5 c1; have c2 := c1.set 1 (.slice p2.a GA.cache.length p2.c); have f2 := c2.frozen; have k2 := blk5 c2; have c3 := c2.set 2 (.int .i64 GA.fuse); have f3 := c3.frozen; have k3 := blk5 c3; have c4 := c3.set 3 (.bool GA.off); have f4 := c4.frozen; have k4 := blk5 c4; go_simp) ?_
          show K (Act.put _ none _) _
          have b3 := blk_set5 b2 (.string (bs GA.data)) (.slice p2.a GA.cache.length p2.c) (.int .i64 GA.fuse) (.bool GA.off) (.slice q2.a GA.bad.length q2.c)
          have bw := below_set5 s2 gb0 (.string (bs GA.data)) (.slice p2.a GA.cache.length p2.c) (.int .i64 GA.fuse) (.bool GA.off) (.slice q2.a GA.bad.length q2.c)
          replace i2 := i2.off5 oB (.string (bs GA.data)) (.slice p2.a GA.cache.length p2.c) (.int .i64 GA.fuse) (.bool GA.off) (.slice q2.a GA.bad.length q2.c)
          refine hK _ _ (fun h => by cases h) ?_
          try simp only [Act.put, List.setIfInBounds_toArray, List.set_cons_zero, List.set_cons_succ]
          refine wpLate_take0 (i := 13) (oi := _) (v := .int .i64 eA) (d := some 14) rfl rfl (by kernel_rfl) (by kernel_rfl) (by kernel_rfl) (fun _ _ _ h => h) rfl (fun W => by rfl) ?_
          simp only [Act.put, List.setIfInBounds_toArray, List.set_cons_zero, List.set_cons_succ]
          refine wpLate_done (by kernel_rfl) ?_ _
          go_wp2_with fail
          go_meet
          exact ⟨gb, p2, q2, rfl, rfl, b3, i2, o4, bw⟩
        · skip
          refine oper_ran (v := .pointer (some ⟨U0.heap.size, 0, none⟩)) (w' := U0.alloc (.cells #[.string (bs []), .slice none 0 0, .int .i64 0, .bool false, .slice none 0 0] 25)) (by go_simp) ?_
          show K (Act.put _ (some 13) _) _
          have s1 := s0.alloc s0.size (.cells #[.string (bs []), .slice none 0 0, .int .i64 0, .bool false, .slice none 0 0] 25)
          have b1 := Blk.new U0 25 #[.string (bs []), .slice none 0 0, .int .i64 0, .bool false, .slice none 0 0]
          have gb0 : U1.heap.size ≤ U0.heap.size := s0.size
          refine hK _ _ (fun _ _ => s1) ?_
          generalize U0.alloc (.cells #[.string (bs []), .slice none 0 0, .int .i64 0, .bool false, .slice none 0 0] 25) = U3 at s1 b1 ⊢
          generalize U0.heap.size = gb at b1 gb0 ⊢
          simp only [Act.put, List.setIfInBounds_toArray, List.set_cons_zero, List.set_cons_succ]
          refine wpLate_one (i := 7) (by kernel_rfl) rfl rfl (fun K hK => ?_)
          refine oper_enter' (f := 85) (args := #[dval D p q, pval yA.tx.plan yA.p yA.q]) (w' := U3) (by go_simp) ((hcA U3 s1).mono ?_)
          rintro e U4 ⟨⟨p2, q2, rfl, i2, o2⟩, hb⟩
          have o4 : ∀ h, h < U1.heap.size → DkOff h D p q → DkOff h GA p2 q2 := fun h hh ho => o2 h (Nat.lt_of_lt_of_le hh s1.size) ho
          have oB := o2 gb b1.lt (hEA.out.apart gb0)
          have b2 := b1.below hb b1.lt
          clear b1
          clear o2
          refine ⟨_, rfl, ?_⟩
          show K (Act.put _ (some 63) _) _
          have s2 := bt s1 hb
          refine hK _ _ (fun _ _ => s2) ?_
          simp only [Act.put, List.setIfInBounds_toArray, List.set_cons_zero, List.set_cons_succ]
          refine wpLate_take0 (i := 8) (oi := _) (v := .tuple #[dval GA p2 q2, .int .i64 eA]) (d := some 55) rfl rfl (by kernel_rfl) (by kernel_rfl) (by kernel_rfl) (fun _ _ _ h => h) rfl (fun W => by rfl) ?_
          simp only [Act.put, List.setIfInBounds_toArray, List.set_cons_zero, List.set_cons_succ]
          refine wpLate_take0 (i := 9) (oi := _) (v := dval GA p2 q2) (d := some 64) rfl rfl (by kernel_rfl) (by kernel_rfl) (by kernel_rfl) (fun _ _ _ h => h) rfl (fun W => by rfl) ?_
          simp only [Act.put, List.setIfInBounds_toArray, List.set_cons_zero, List.set_cons_succ]
          refine wpLate_take0 (i := 10) (oi := _) (v := .int .i64 eA) (d := some 65) rfl rfl (by kernel_rfl) (by kernel_rfl) (by kernel_rfl) (fun _ _ _ h => h) rfl (fun W => by rfl) ?_
          simp only [Act.put, List.setIfInBounds_toArray, List.set_cons_zero, List.set_cons_succ]
          refine wpLate_one (i := 12) (by kernel_rfl) rfl rfl (fun K hK => ?_)
          refine oper_skip (w' := ((((U4.setCell ⟨gb, 0, none⟩ (.string (bs GA.data))).setCell ⟨gb, 1, none⟩ (.slice p2.a GA.cache.length p2.c)).setCell ⟨gb, 2, none⟩ (.int .i64 GA.fuse)).setCell ⟨gb, 3, none⟩ (.bool GA.off)).setCell ⟨gb, 4, none⟩ (.slice q2.a GA.bad.length q2.c)) (by have k0 := blk5 b2; have f0 := b2.frozen; have c1 := b2.set 0 (.string (bs GA.data)); have f1 := c1.frozen; have k1 := blk5 c1; have c2 := c1.set 1 (.slice p2.a GA.cache.length p2.c); have f2 := c2.frozen; have k2 := blk5 c2; have c3 := c2.set 2 (.int .i64 GA.fuse); have f3 := c3.frozen; have k3 := blk5 c3; have c4 := c3.set 3 (.bool GA.off); have f4 := c4.frozen; have k4 := blk5 c4; go_simp) ?_
          show K (Act.put _ none _) _
          have b3 := blk_set5 b2 (.string (bs GA.data)) (.slice p2.a GA.cache.length p2.c) (.int .i64 GA.fuse) (.bool GA.off) (.slice q2.a GA.bad.length q2.c)
          have bw := below_set5 s2 gb0 (.string (bs GA.data)) (.slice p2.a GA.cache.length p2.c) (.int .i64 GA.fuse) (.bool GA.off) (.slice q2.a GA.bad.length q2.c)
          replace i2 := i2.off5 oB (.string (bs GA.data)) (.slice p2.a GA.cache.length p2.c) (.int .i64 GA.fuse) (.bool GA.off) (.slice q2.a GA.bad.length q2.c)
          refine hK _ _ (fun h => by cases h) ?_
          try simp only [Act.put, List.setIfInBounds_toArray, List.set_cons_zero, List.set_cons_succ]
          refine wpLate_take0 (i := 13) (oi := _) (v := .int .i64 eA) (d := some 14) rfl rfl (by kernel_rfl) (by kernel_rfl) (by kernel_rfl) (fun _ _ _ h => h) rfl (fun W => by rfl) ?_
          simp only [Act.put, List.setIfInBounds_toArray, List.set_cons_zero, List.set_cons_succ]
          refine wpLate_done (by kernel_rfl) ?_ _
          go_wp2_with fail
          go_meet
          exact ⟨gb, p2, q2, rfl, rfl, b3, i2, o4, bw⟩
      obtain ⟨gbA, pA, qA, rfl, rfl, bxA, ivA, obA, hvA⟩ := hcut
      clear hcA KSA KRA hEA kxA
      have StA := St1.later hvA
      have SpA := StA.put ivA (fun g hg h => obA g (by omega) h)
      have RowA := (Row1.later hvA).set5 StA.x (.string (bs GA.data)) (.slice pA.a GA.cache.length pA.c) (.int .i64 GA.fuse) (.bool GA.off) (.slice qA.a GA.bad.length qA.c)
      have kbA := blk5 bxA
      have kxA := blk5 StA.x
      have fxA := StA.x.frozen
      generalize hVA : wc = VA at *
      clear hVA
      have HstA := hid (show jrSteps D (L.map Fd.it) = (GA, eA) by rw [Hs1.out, HyA.out, HGA.out])
      by_cases heA : eA = 0
      · subst heA
        have Hsteps := hid (show jrSteps D (L.map Fd.it) = (GA, 0) from HstA.out)
        have HEf := hid (show GA.fit = true by have := jrSteps_fit Hf.out (L.map Fd.it); rw [Hsteps.out] at this; exact this)
        have hpos := Hpos.out _ (List.mem_map.2 ⟨_, List.getElem_mem hk, rfl⟩)
        have hyk := Hokl.out _ (List.getElem_mem hk)
        have hln := (Hplan.out _ (List.getElem_mem hk)).2
        have Hnx := hid (show jrNext (L.map Fd.it) = ⟨min yA.tx.seq 4611686018427387903 + 1, yA.pos + txSize yA.tx.plan.targets.length⟩ by
          unfold jrNext; rw [hlast, HyA.out]; rfl)
        rw [HyA.out] at hpos hyk hln
        have hpos : yA.pos < 81 := hpos
        have hsq := hyk.2
        have hsize : txSize yA.tx.plan.targets.length ≤ 27 := by unfold txSize; split <;> omega
        clear HstA
        have cnA := RowA.cells k hk
        rw [HyA.out] at cnA
        obtain ⟨caA, cbA, ccA, cdA⟩ := cnA
        have tb := Blk.new (((((VA.setCell ⟨w.heap.size, 0, none⟩ (.string (bs GA.data))).setCell ⟨w.heap.size, 1, none⟩ (.slice pA.a GA.cache.length pA.c)).setCell ⟨w.heap.size, 2, none⟩ (.int .i64 GA.fuse)).setCell ⟨w.heap.size, 3, none⟩ (.bool GA.off)).setCell ⟨w.heap.size, 4, none⟩ (.slice qA.a GA.bad.length qA.c)) 92 #[.int .u64 yA.tx.seq, .slice yA.p.a yA.tx.plan.targets.length yA.p.c, .slice yA.q.a yA.tx.plan.data.length yA.q.c]
        rw [size_five] at tb
        have hbt := (Below.refl (((((VA.setCell ⟨w.heap.size, 0, none⟩ (.string (bs GA.data))).setCell ⟨w.heap.size, 1, none⟩ (.slice pA.a GA.cache.length pA.c)).setCell ⟨w.heap.size, 2, none⟩ (.int .i64 GA.fuse)).setCell ⟨w.heap.size, 3, none⟩ (.bool GA.off)).setCell ⟨w.heap.size, 4, none⟩ (.slice qA.a GA.bad.length qA.c)).heap.size (((((VA.setCell ⟨w.heap.size, 0, none⟩ (.string (bs GA.data))).setCell ⟨w.heap.size, 1, none⟩ (.slice pA.a GA.cache.length pA.c)).setCell ⟨w.heap.size, 2, none⟩ (.int .i64 GA.fuse)).setCell ⟨w.heap.size, 3, none⟩ (.bool GA.off)).setCell ⟨w.heap.size, 4, none⟩ (.slice qA.a GA.bad.length qA.c))).alloc (Nat.le_refl _) (.cells #[.int .u64 yA.tx.seq, .slice yA.p.a yA.tx.plan.targets.length yA.p.c, .slice yA.q.a yA.tx.plan.data.length yA.q.c] 92)
        have St5 := SpA.later hbt
        have Row5 := RowA.later hbt
        have hVg : gj9 < VA.heap.size := by have := StA.j.lt; rw [Hgj.out]; exact this
        go_wp2_with fail
        generalize (((((VA.setCell ⟨w.heap.size, 0, none⟩ (.string (bs GA.data))).setCell ⟨w.heap.size, 1, none⟩ (.slice pA.a GA.cache.length pA.c)).setCell ⟨w.heap.size, 2, none⟩ (.int .i64 GA.fuse)).setCell ⟨w.heap.size, 3, none⟩ (.bool GA.off)).setCell ⟨w.heap.size, 4, none⟩ (.slice qA.a GA.bad.length qA.c)).alloc (.cells #[.int .u64 yA.tx.seq, .slice yA.p.a yA.tx.plan.targets.length yA.p.c, .slice yA.q.a yA.tx.plan.data.length yA.q.c] 92) = Y at St5 Row5 tb ⊢
        clear caA cbA ccA cdA kbA kxA fxA hbt SpA
        have cm := (Row5.cells k hk).1
        rw [HyA.out] at cm
        have D1 := fun e : Ext Y => r6_size (yA.tx.plan.targets.length : Int) ⟨by omega, by omega⟩ e.world
        simp only [txSizeI_nat] at D1
        have X1 := fun e : Ext Y => e.cell cm
        have X2 := ext3 tb
        have wS := i64w (x := (yA.pos : Int) + (txSize yA.tx.plan.targets.length : Int)) ⟨by omega, by omega⟩
        refine wp_region_ext_tail 12 mixed (by kernel_rfl) (fun _ _ _ d _ h => by cases d <;> exact h) ?_
        simp only [List.take_succ_cons, List.take_zero, List.drop_succ_cons, List.drop_zero]
        repeat (go_big_quiet_step (((go_at_call 91; with_reducible exact ext_of (D1 _)))))
        refine wpQuiet_nil ?_
        rintro Z ⟨pq_, hpq_⟩
        have hZ := pq_.below
        rw [← hpq_] at hZ
        clear hpq_ pq_
        have St6 := St5.later hZ
        have tb6 := tb.below hZ tb.lt
        have kt6 := blk3 tb6
        have kj6 := blk2 St6.j
        have fj6 := St6.j.frozen
        have hne6 : ¬ VA.heap.size = w1.heap.size := by rw [Hgj.out] at hVg; omega
        have hne7 : ¬ w1.heap.size = VA.heap.size := by rw [Hgj.out] at hVg; omega
        have hj9 := St6.hj
        have hjn : w.heap.size + 1 + 1 + 1 < w1.heap.size := by have := Hgn.out; omega
        go_upto_region 19 with fail
        have St7 := St6.setj hjn 4611686018427387904 ((yA.pos : Int) + (txSize yA.tx.plan.targets.length : Int))
        have tb7 := blk_off2 tb6 (g := w1.heap.size) hne6 (.int .u64 4611686018427387904) (.int .i64 ((yA.pos : Int) + (txSize yA.tx.plan.targets.length : Int)))
        clear kt6 kj6 fj6 tb6 wS
        generalize (Z.setCell ⟨w1.heap.size, 0, none⟩ (.int .u64 4611686018427387904)).setCell ⟨w1.heap.size, 1, none⟩ (.int .i64 ((yA.pos : Int) + (txSize yA.tx.plan.targets.length : Int))) = Y2 at St7 tb7 ⊢
        have kt7 := blk3 tb7
        have kj7 := blk2 St7.j
        have fj7 := St7.j.frozen
        by_cases hsq62 : yA.tx.seq < 4611686018427387904
        · have Hnext := hid (show jrNext (L.map Fd.it) = ⟨yA.tx.seq + 1, yA.pos + txSize yA.tx.plan.targets.length⟩ by
            rw [Hnx.out, Nat.min_eq_left (by omega)])
          have g62 : (yA.tx.seq : Int) < 4611686018427387904 := by omega
          have wq := u64w (x := (yA.tx.seq : Int) + 1) ⟨by omega, by omega⟩
          clear hsq62 hsq
          have HM : Hid ((4611686018427387904 : Int) = ((4611686018427387904 : Nat) : Int)) := hid rfl
          generalize (4611686018427387904 : Int) = M at HM g62 kj7 fj7 St7 ⊢
          go_upto_region 21 with fail
          have St8 := St7.setseq hjn ((yA.tx.seq : Int) + 1)
          clear kt7 kj7 fj7 tb7
          generalize Y2.setCell ⟨w1.heap.size, 0, none⟩ (.int .u64 ((yA.tx.seq : Int) + 1)) = U9 at St8 ⊢
          obtain ⟨⟨F, ef⟩, hF⟩ : ∃ X, GA.flush = X := ⟨_, rfl⟩
          have hcF := hflush GA pA qA U9 St8.is HEf.out
          rw [hF] at hcF
          have Hend := hid (jrReplay_end HS.out Hsteps.out hF)
          clear hF
          have kxF := blk5 St8.x
          go_wp2_with fail
          go_at_call 81
          refine hcF.mono ?_
          rintro e U2 ⟨⟨p4, q4, rfl, i4, o4⟩, hb4⟩
          have St3 := St8.later hb4
          have St4 := St3.put i4 (fun g hg h => o4 g (by have := St8.j.lt; omega) h)
          have kxF2 := blk5 St3.x
          have fxF2 := St3.x.frozen
          clear kxF hcF
          by_cases hef : ef = 0
          · subst hef
            have Hw9 := hid (show jrReplay D = (F, ⟨yA.tx.seq + 1, yA.pos + txSize yA.tx.plan.targets.length⟩, 0) by rw [Hend.out, if_neg (by simp), Hnext.out])
            go_wp2_with fail
            clear kxF2 fxF2
            generalize ((((U2.setCell ⟨w.heap.size, 0, none⟩ (.string (bs F.data))).setCell ⟨w.heap.size, 1, none⟩ (.slice p4.a F.cache.length p4.c)).setCell ⟨w.heap.size, 2, none⟩ (.int .i64 F.fuse)).setCell ⟨w.heap.size, 3, none⟩ (.bool F.off)).setCell ⟨w.heap.size, 4, none⟩ (.slice q4.a F.bad.length q4.c) = U3 at St4 ⊢
            have kx9 := blk5 St4.x
            have kn9 := blk2 St4.n
            have kj9 := blk2 St4.j
            have kr9 := blk5 St4.r
            have fr9 := St4.r.frozen
            have ks9 := blk2 St4.s
            have fs9 := St4.s.frozen
            have hj9 := St4.hj
            have na9 : ¬ w1.heap.size = w.heap.size + 1 := by omega
            have nb9 : ¬ w.heap.size + 1 = w1.heap.size := by omega
            have nc9 : ¬ w1.heap.size = w.heap.size + 1 + 1 := by omega
            have nd9 : ¬ w.heap.size + 1 + 1 = w1.heap.size := by omega
            obtain ⟨Z9, hZ9, r9, s9, i9, b9⟩ := St4.fin (((yA.tx.seq : Int) + 1)) (((yA.pos : Int) + (txSize yA.tx.plan.targets.length : Int)))
            go_region
            rw [← hZ9]
            have yr9 := blk5 r9
            have ys9 := blk2 s9
            clear kx9 kn9 kj9 kr9 fr9 ks9 fs9 hZ9 hj9 na9 nb9 nc9 nd9
            go_wp2_with fail
            refine bodyPost_ret (v := .tuple #[dval F p4 q4, .agg #[.int .u64 (((yA.tx.seq : Int) + 1)), .int .i64 (((yA.pos : Int) + (txSize yA.tx.plan.targets.length : Int)))], .int .i64 0]) (by simp [results, Tryz.results43, go_sem, yr9, ys9]) rfl ?_
            exact ⟨⟨p4, q4, by rw [Hw9.out]; rfl, by rw [Hw9.out]; exact i9, by rw [Hw9.out]; exact St4.old⟩, b9⟩
          · have nF : (ef != 0) = true := by simpa using hef
            have Hw9 := hid (show jrReplay D = (F, Jr.none, ef) by rw [Hend.out, if_pos hef])
            clear hef
            go_wp2_with fail
            clear kxF2 fxF2
            generalize ((((U2.setCell ⟨w.heap.size, 0, none⟩ (.string (bs F.data))).setCell ⟨w.heap.size, 1, none⟩ (.slice p4.a F.cache.length p4.c)).setCell ⟨w.heap.size, 2, none⟩ (.int .i64 F.fuse)).setCell ⟨w.heap.size, 3, none⟩ (.bool F.off)).setCell ⟨w.heap.size, 4, none⟩ (.slice q4.a F.bad.length q4.c) = U3 at St4 ⊢
            have kx9 := blk5 St4.x
            have kn9 := blk2 St4.n
            have kj9 := blk2 St4.j
            have kr9 := blk5 St4.r
            have fr9 := St4.r.frozen
            have ks9 := blk2 St4.s
            have fs9 := St4.s.frozen
            have hj9 := St4.hj
            have na9 : ¬ w1.heap.size = w.heap.size + 1 := by omega
            have nb9 : ¬ w.heap.size + 1 = w1.heap.size := by omega
            have nc9 : ¬ w1.heap.size = w.heap.size + 1 + 1 := by omega
            have nd9 : ¬ w.heap.size + 1 + 1 = w1.heap.size := by omega
            obtain ⟨Z9, hZ9, r9, s9, i9, b9⟩ := St4.fin (1) (0)
            go_region
            rw [← hZ9]
            have yr9 := blk5 r9
            have ys9 := blk2 s9
            clear kx9 kn9 kj9 kr9 fr9 ks9 fs9 hZ9 hj9 na9 nb9 nc9 nd9
            go_wp2_with fail
            refine bodyPost_ret (v := .tuple #[dval F p4 q4, .agg #[.int .u64 (1), .int .i64 (0)], .int .i64 ef]) (by simp [results, Tryz.results43, go_sem, yr9, ys9]) rfl ?_
            exact ⟨⟨p4, q4, by rw [Hw9.out]; rfl, by rw [Hw9.out]; exact i9, by rw [Hw9.out]; exact St4.old⟩, b9⟩
        · have Hnext := hid (show jrNext (L.map Fd.it) = ⟨4611686018427387904, yA.pos + txSize yA.tx.plan.targets.length⟩ by
            rw [Hnx.out, Nat.min_eq_right (by omega)])
          have g62 : (4611686018427387904 : Int) ≤ (yA.tx.seq : Int) := by omega
          clear hsq62 hsq
          have HM : Hid ((4611686018427387904 : Int) = ((4611686018427387904 : Nat) : Int)) := hid rfl
          generalize (4611686018427387904 : Int) = M at HM g62 kj7 fj7 St7 ⊢
          go_upto_region 21 with fail
          clear kt7 kj7 fj7 tb7
          obtain ⟨⟨F, ef⟩, hF⟩ : ∃ X, GA.flush = X := ⟨_, rfl⟩
          have hcF := hflush GA pA qA Y2 St7.is HEf.out
          rw [hF] at hcF
          have Hend := hid (jrReplay_end HS.out Hsteps.out hF)
          clear hF
          have kxF := blk5 St7.x
          go_wp2_with fail
          go_at_call 81
          refine hcF.mono ?_
          rintro e U2 ⟨⟨p4, q4, rfl, i4, o4⟩, hb4⟩
          have St3 := St7.later hb4
          have St4 := St3.put i4 (fun g hg h => o4 g (by have := St7.j.lt; omega) h)
          have kxF2 := blk5 St3.x
          have fxF2 := St3.x.frozen
          clear kxF hcF
          by_cases hef : ef = 0
          · subst hef
            have Hw9 := hid (show jrReplay D = (F, ⟨4611686018427387904, yA.pos + txSize yA.tx.plan.targets.length⟩, 0) by rw [Hend.out, if_neg (by simp), Hnext.out])
            go_wp2_with fail
            clear kxF2 fxF2
            generalize ((((U2.setCell ⟨w.heap.size, 0, none⟩ (.string (bs F.data))).setCell ⟨w.heap.size, 1, none⟩ (.slice p4.a F.cache.length p4.c)).setCell ⟨w.heap.size, 2, none⟩ (.int .i64 F.fuse)).setCell ⟨w.heap.size, 3, none⟩ (.bool F.off)).setCell ⟨w.heap.size, 4, none⟩ (.slice q4.a F.bad.length q4.c) = U3 at St4 ⊢
            have kx9 := blk5 St4.x
            have kn9 := blk2 St4.n
            have kj9 := blk2 St4.j
            have kr9 := blk5 St4.r
            have fr9 := St4.r.frozen
            have ks9 := blk2 St4.s
            have fs9 := St4.s.frozen
            have hj9 := St4.hj
            have na9 : ¬ w1.heap.size = w.heap.size + 1 := by omega
            have nb9 : ¬ w.heap.size + 1 = w1.heap.size := by omega
            have nc9 : ¬ w1.heap.size = w.heap.size + 1 + 1 := by omega
            have nd9 : ¬ w.heap.size + 1 + 1 = w1.heap.size := by omega
            obtain ⟨Z9, hZ9, r9, s9, i9, b9⟩ := St4.fin (M) (((yA.pos : Int) + (txSize yA.tx.plan.targets.length : Int)))
            go_region
            rw [← hZ9]
            have yr9 := blk5 r9
            have ys9 := blk2 s9
            clear kx9 kn9 kj9 kr9 fr9 ks9 fs9 hZ9 hj9 na9 nb9 nc9 nd9
            go_wp2_with fail
            refine bodyPost_ret (v := .tuple #[dval F p4 q4, .agg #[.int .u64 (M), .int .i64 (((yA.pos : Int) + (txSize yA.tx.plan.targets.length : Int)))], .int .i64 0]) (by simp [results, Tryz.results43, go_sem, yr9, ys9]) rfl ?_
            exact ⟨⟨p4, q4, by rw [Hw9.out]; rw [HM.out], by rw [Hw9.out]; exact i9, by rw [Hw9.out]; exact St4.old⟩, b9⟩
          · have nF : (ef != 0) = true := by simpa using hef
            have Hw9 := hid (show jrReplay D = (F, Jr.none, ef) by rw [Hend.out, if_pos hef])
            clear hef
            go_wp2_with fail
            clear kxF2 fxF2
            generalize ((((U2.setCell ⟨w.heap.size, 0, none⟩ (.string (bs F.data))).setCell ⟨w.heap.size, 1, none⟩ (.slice p4.a F.cache.length p4.c)).setCell ⟨w.heap.size, 2, none⟩ (.int .i64 F.fuse)).setCell ⟨w.heap.size, 3, none⟩ (.bool F.off)).setCell ⟨w.heap.size, 4, none⟩ (.slice q4.a F.bad.length q4.c) = U3 at St4 ⊢
            have kx9 := blk5 St4.x
            have kn9 := blk2 St4.n
            have kj9 := blk2 St4.j
            have kr9 := blk5 St4.r
            have fr9 := St4.r.frozen
            have ks9 := blk2 St4.s
            have fs9 := St4.s.frozen
            have hj9 := St4.hj
            have na9 : ¬ w1.heap.size = w.heap.size + 1 := by omega
            have nb9 : ¬ w.heap.size + 1 = w1.heap.size := by omega
            have nc9 : ¬ w1.heap.size = w.heap.size + 1 + 1 := by omega
            have nd9 : ¬ w.heap.size + 1 + 1 = w1.heap.size := by omega
            obtain ⟨Z9, hZ9, r9, s9, i9, b9⟩ := St4.fin (1) (0)
            go_region
            rw [← hZ9]
            have yr9 := blk5 r9
            have ys9 := blk2 s9
            clear kx9 kn9 kj9 kr9 fr9 ks9 fs9 hZ9 hj9 na9 nb9 nc9 nd9
            go_wp2_with fail
            refine bodyPost_ret (v := .tuple #[dval F p4 q4, .agg #[.int .u64 (1), .int .i64 (0)], .int .i64 ef]) (by simp [results, Tryz.results43, go_sem, yr9, ys9]) rfl ?_
            exact ⟨⟨p4, q4, by rw [Hw9.out]; rfl, by rw [Hw9.out]; exact i9, by rw [Hw9.out]; exact St4.old⟩, b9⟩
      · skip
        have neA : (eA != 0) = true := by simpa using heA
        have HwA := hid (show jrReplay D = (GA, Jr.none, eA) from jrReplay_steps HS.out HstA.out heA)
        clear heA
        go_wp2_with fail
        clear kbA kxA fxA
        generalize ((((VA.setCell ⟨w.heap.size, 0, none⟩ (.string (bs GA.data))).setCell ⟨w.heap.size, 1, none⟩ (.slice pA.a GA.cache.length pA.c)).setCell ⟨w.heap.size, 2, none⟩ (.int .i64 GA.fuse)).setCell ⟨w.heap.size, 3, none⟩ (.bool GA.off)).setCell ⟨w.heap.size, 4, none⟩ (.slice qA.a GA.bad.length qA.c) = XA at SpA RowA ⊢
        have kx9 := blk5 SpA.x
        have kn9 := blk2 SpA.n
        have kj9 := blk2 SpA.j
        have kr9 := blk5 SpA.r
        have fr9 := SpA.r.frozen
        have ks9 := blk2 SpA.s
        have fs9 := SpA.s.frozen
        have hj9 := SpA.hj
        have na9 : ¬ w1.heap.size = w.heap.size + 1 := by omega
        have nb9 : ¬ w.heap.size + 1 = w1.heap.size := by omega
        have nc9 : ¬ w1.heap.size = w.heap.size + 1 + 1 := by omega
        have nd9 : ¬ w.heap.size + 1 + 1 = w1.heap.size := by omega
        obtain ⟨Z9, hZ9, r9, s9, i9, b9⟩ := SpA.fin (1) (0)
        go_region
        rw [← hZ9]
        have yr9 := blk5 r9
        have ys9 := blk2 s9
        clear kx9 kn9 kj9 kr9 fr9 ks9 fs9 hZ9 hj9 na9 nb9 nc9 nd9
        go_wp2_with fail
        refine bodyPost_ret (v := .tuple #[dval GA pA qA, .agg #[.int .u64 (1), .int .i64 (0)], .int .i64 eA]) (by simp [results, Tryz.results43, go_sem, yr9, ys9]) rfl ?_
        exact ⟨⟨pA, qA, by rw [HwA.out]; rfl, by rw [HwA.out]; exact i9, by rw [HwA.out]; exact SpA.old⟩, b9⟩
    · have Hs2 := hid (show jrSteps D (L.map Fd.it) = Dk.next (Pn.lay D L[jx].tx.plan) fun E => Pn.lay E L[k].tx.plan by
        unfold jrSteps
        rw [hlast]
        simp only
        rw [show L[k].it.2.seq = L[k].tx.seq from rfl, hbs]
        rfl)
      have gB : decide ((0 : Int) ≤ (jx : Int)) = true := decide_eq_true (by omega)
      obtain ⟨yB, hyB⟩ : ∃ y, L[jx] = y := ⟨_, rfl⟩
      have hmB := Row1.cells jx hjx
      have hdB := Row1.ok _ (List.getElem_mem hjx)
      have hlB := Hplan.out _ (List.getElem_mem hjx)
      rw [hyB] at hmB hdB hlB
      have HyB := hid hyB
      obtain ⟨⟨GB, eB⟩, hGB⟩ : ∃ X, Pn.lay D yB.tx.plan = X := ⟨_, rfl⟩
      have hcB := fun (W : World) (hW : Below U1.heap.size U1 W) => hlay D yB.tx.plan p q yB.p yB.q W (St1.is.below hW) (hdB.pn.below hW) hlB.1 hlB.2
      simp only [hGB] at hcB
      have HGB := hid hGB
      clear hGB hyB hlB
      have KSB := fun (W : World) (hW : Below U1.heap.size U1 W) => blk5 (St1.x.below hW St1.x.lt)
      have KRB := fun (W : World) (hW : Below U1.heap.size U1 W) => And.intro (cell_below hW hmB.2.2.1) (cell_below hW hmB.2.2.2)
      have hgjB := St1.j.lt
      have hEB := hid St1.is
      have kxB := blk5 St1.x
      clear hmB
      go_upto_region 9 with fail
      go_cut [11, 12] (fun sx sy wx => LayMade U1 D p q GB eB sx sy wx)
      case first =>
        have s0 : Below U1.heap.size U1 U1.drew := (Below.refl _ _).drew
        refine wp_region_late (S := fun W => Below U1.heap.size U1 W) (late := fun i => i == 12) (by kernel_rfl) ?_
        clear kxB
        generalize U1.drew = U0 at s0 ⊢
        simp only [List.size_toArray, List.length_cons, List.length_nil, Nat.reduceAdd, Array.replicate_succ, Array.replicate_zero, List.push_toArray, List.nil_append, List.cons_append]
        refine wpLate_take (i := 0) (oi := _) (v := dval D p q) (d := some 39) rfl rfl (by kernel_rfl) (by kernel_rfl) (by kernel_rfl) (by kernel_rfl) (fun _ _ _ h => h) rfl (fun W hW => by have h := KSB W hW; go_simp) s0 ?_
        simp only [Act.put, List.setIfInBounds_toArray, List.set_cons_zero, List.set_cons_succ]
        refine wpLate_take0 (i := 1) (oi := _) (v := .slice (some ⟨fb, 0, none⟩) L.length cL) (d := some 40) rfl rfl (by kernel_rfl) (by kernel_rfl) (by kernel_rfl) (fun _ _ _ h => h) rfl (fun W => by rfl) ?_
        simp only [Act.put, List.setIfInBounds_toArray, List.set_cons_zero, List.set_cons_succ]
        refine wpLate_take0 (i := 2) (oi := _) (v := .int .i64 (jx : Int)) (d := some 41) rfl rfl (by kernel_rfl) (by kernel_rfl) (by kernel_rfl) (fun _ _ _ h => h) rfl (fun W => by rfl) ?_
        simp only [Act.put, List.setIfInBounds_toArray, List.set_cons_zero, List.set_cons_succ]
        refine wpLate_take0 (i := 3) (oi := _) (v := .pointer (some ⟨fb, jx * 4, none⟩)) (d := some 42) rfl rfl (by kernel_rfl) (by kernel_rfl) (by kernel_rfl) (fun _ _ _ h => h) rfl (fun W => by go_simp) ?_
        simp only [Act.put, List.setIfInBounds_toArray, List.set_cons_zero, List.set_cons_succ]
        refine wpLate_take0 (i := 4) (oi := _) (v := .pointer (some ⟨fb, jx * 4 + 1, none⟩)) (d := some 43) rfl rfl (by kernel_rfl) (by kernel_rfl) (by kernel_rfl) (fun _ _ _ h => h) rfl (fun W => by go_simp) ?_
        simp only [Act.put, List.setIfInBounds_toArray, List.set_cons_zero, List.set_cons_succ]
        refine wpLate_take0 (i := 5) (oi := _) (v := .pointer (some ⟨fb, jx * 4 + 1 + 1, none⟩)) (d := some 44) rfl rfl (by kernel_rfl) (by kernel_rfl) (by kernel_rfl) (fun _ _ _ h => h) rfl (fun W => by go_simp) ?_
        simp only [Act.put, List.setIfInBounds_toArray, List.set_cons_zero, List.set_cons_succ]
        refine wpLate_take (i := 6) (oi := _) (v := pval yB.tx.plan yB.p yB.q) (d := some 45) rfl rfl (by kernel_rfl) (by kernel_rfl) (by kernel_rfl) (by kernel_rfl) (fun _ _ _ h => h) rfl (fun W hW => by have h := KRB W hW; go_simp) s0 ?_
        simp only [Act.put, List.setIfInBounds_toArray, List.set_cons_zero, List.set_cons_succ]
        refine wpLate_two (i := 7) (k := 11) (by kernel_rfl) rfl rfl rfl rfl (fun K hK => ?_) (fun K hK => ?_)
        · skip
          refine oper_enter' (f := 85) (args := #[dval D p q, pval yB.tx.plan yB.p yB.q]) (w' := U0) (by go_simp) ((hcB U0 s0).mono ?_)
          rintro e U3 ⟨⟨p2, q2, rfl, i2, o2⟩, hb⟩
          have o4 : ∀ h, h < U1.heap.size → DkOff h D p q → DkOff h GB p2 q2 := fun h hh ho => o2 h (Nat.lt_of_lt_of_le hh s0.size) ho
          clear o2
          refine ⟨_, rfl, ?_⟩
          show K (Act.put _ (some 46) _) _
          have s1 := bt s0 hb
          refine hK _ _ (fun _ _ => s1) ?_
          simp only [Act.put, List.setIfInBounds_toArray, List.set_cons_zero, List.set_cons_succ]
          refine wpLate_take0 (i := 8) (oi := _) (v := .tuple #[dval GB p2 q2, .int .i64 eB]) (d := some 38) rfl rfl (by kernel_rfl) (by kernel_rfl) (by kernel_rfl) (fun _ _ _ h => h) rfl (fun W => by rfl) ?_
          simp only [Act.put, List.setIfInBounds_toArray, List.set_cons_zero, List.set_cons_succ]
          refine wpLate_take0 (i := 9) (oi := _) (v := dval GB p2 q2) (d := some 47) rfl rfl (by kernel_rfl) (by kernel_rfl) (by kernel_rfl) (fun _ _ _ h => h) rfl (fun W => by rfl) ?_
          simp only [Act.put, List.setIfInBounds_toArray, List.set_cons_zero, List.set_cons_succ]
          refine wpLate_take0 (i := 10) (oi := _) (v := .int .i64 eB) (d := some 48) rfl rfl (by kernel_rfl) (by kernel_rfl) (by kernel_rfl) (fun _ _ _ h => h) rfl (fun W => by rfl) ?_
          simp only [Act.put, List.setIfInBounds_toArray, List.set_cons_zero, List.set_cons_succ]
          refine wpLate_one (i := 11) (by kernel_rfl) rfl rfl (fun K hK => ?_)
          refine oper_ran (v := .pointer (some ⟨U3.heap.size, 0, none⟩)) (w' := U3.alloc (.cells #[.string (bs []), .slice none 0 0, .int .i64 0, .bool false, .slice none 0 0] 25)) (by go_simp) ?_
          show K (Act.put _ (some 11) _) _
          have s2 := s1.alloc s1.size (.cells #[.string (bs []), .slice none 0 0, .int .i64 0, .bool false, .slice none 0 0] 25)
          have b2 := Blk.new U3 25 #[.string (bs []), .slice none 0 0, .int .i64 0, .bool false, .slice none 0 0]
          have gb0 : U1.heap.size ≤ U3.heap.size := s1.size
          have oB := i2.apart (g := U3.heap.size) (Nat.le_refl _)
          replace i2 := i2.below ((Below.refl U3.heap.size U3).alloc (Nat.le_refl _) (.cells #[.string (bs []), .slice none 0 0, .int .i64 0, .bool false, .slice none 0 0] 25))
          refine hK _ _ (fun _ _ => s2) ?_
          generalize U3.alloc (.cells #[.string (bs []), .slice none 0 0, .int .i64 0, .bool false, .slice none 0 0] 25) = U4 at s2 b2 i2 ⊢
          generalize U3.heap.size = gb at b2 gb0 oB ⊢
          simp only [Act.put, List.setIfInBounds_toArray, List.set_cons_zero, List.set_cons_succ]
          refine wpLate_one (i := 12) (by kernel_rfl) rfl rfl (fun K hK => ?_)
          refine oper_skip (w' := ((((U4.setCell ⟨gb, 0, none⟩ (.string (bs GB.data))).setCell ⟨gb, 1, none⟩ (.slice p2.a GB.cache.length p2.c)).setCell ⟨gb, 2, none⟩ (.int .i64 GB.fuse)).setCell ⟨gb, 3, none⟩ (.bool GB.off)).setCell ⟨gb, 4, none⟩ (.slice q2.a GB.bad.length q2.c)) (by have k0 := blk5 b2; have f0 := b2.frozen; have c1 := b2.set 0 (.string (bs GB.data)); have f1 := c1.frozen; have k1 := blk5 c1; have c2 := c1.set 1 (.slice p2.a GB.cache.length p2.c); have f2 := c2.frozen; have k2 := blk5 c2; have c3 := c2.set 2 (.int .i64 GB.fuse); have f3 := c3.frozen; have k3 := blk5 c3; have c4 := c3.set 3 (.bool GB.off); have f4 := c4.frozen; have k4 := blk5 c4; go_simp) ?_
          show K (Act.put _ none _) _
          have b3 := blk_set5 b2 (.string (bs GB.data)) (.slice p2.a GB.cache.length p2.c) (.int .i64 GB.fuse) (.bool GB.off) (.slice q2.a GB.bad.length q2.c)
          have bw := below_set5 s2 gb0 (.string (bs GB.data)) (.slice p2.a GB.cache.length p2.c) (.int .i64 GB.fuse) (.bool GB.off) (.slice q2.a GB.bad.length q2.c)
          replace i2 := i2.off5 oB (.string (bs GB.data)) (.slice p2.a GB.cache.length p2.c) (.int .i64 GB.fuse) (.bool GB.off) (.slice q2.a GB.bad.length q2.c)
          refine hK _ _ (fun h => by cases h) ?_
          try simp only [Act.put, List.setIfInBounds_toArray, List.set_cons_zero, List.set_cons_succ]
          refine wpLate_take0 (i := 13) (oi := _) (v := .int .i64 eB) (d := some 12) rfl rfl (by kernel_rfl) (by kernel_rfl) (by kernel_rfl) (fun _ _ _ h => h) rfl (fun W => by rfl) ?_
          simp only [Act.put, List.setIfInBounds_toArray, List.set_cons_zero, List.set_cons_succ]
          refine wpLate_done (by kernel_rfl) ?_ _
          go_wp2_with fail
          go_meet
          exact ⟨gb, p2, q2, rfl, rfl, b3, i2, o4, bw⟩
        · skip
          refine oper_ran (v := .pointer (some ⟨U0.heap.size, 0, none⟩)) (w' := U0.alloc (.cells #[.string (bs []), .slice none 0 0, .int .i64 0, .bool false, .slice none 0 0] 25)) (by go_simp) ?_
          show K (Act.put _ (some 11) _) _
          have s1 := s0.alloc s0.size (.cells #[.string (bs []), .slice none 0 0, .int .i64 0, .bool false, .slice none 0 0] 25)
          have b1 := Blk.new U0 25 #[.string (bs []), .slice none 0 0, .int .i64 0, .bool false, .slice none 0 0]
          have gb0 : U1.heap.size ≤ U0.heap.size := s0.size
          refine hK _ _ (fun _ _ => s1) ?_
          generalize U0.alloc (.cells #[.string (bs []), .slice none 0 0, .int .i64 0, .bool false, .slice none 0 0] 25) = U3 at s1 b1 ⊢
          generalize U0.heap.size = gb at b1 gb0 ⊢
          simp only [Act.put, List.setIfInBounds_toArray, List.set_cons_zero, List.set_cons_succ]
          refine wpLate_one (i := 7) (by kernel_rfl) rfl rfl (fun K hK => ?_)
          refine oper_enter' (f := 85) (args := #[dval D p q, pval yB.tx.plan yB.p yB.q]) (w' := U3) (by go_simp) ((hcB U3 s1).mono ?_)
          rintro e U4 ⟨⟨p2, q2, rfl, i2, o2⟩, hb⟩
          have o4 : ∀ h, h < U1.heap.size → DkOff h D p q → DkOff h GB p2 q2 := fun h hh ho => o2 h (Nat.lt_of_lt_of_le hh s1.size) ho
          have oB := o2 gb b1.lt (hEB.out.apart gb0)
          have b2 := b1.below hb b1.lt
          clear b1
          clear o2
          refine ⟨_, rfl, ?_⟩
          show K (Act.put _ (some 46) _) _
          have s2 := bt s1 hb
          refine hK _ _ (fun _ _ => s2) ?_
          simp only [Act.put, List.setIfInBounds_toArray, List.set_cons_zero, List.set_cons_succ]
          refine wpLate_take0 (i := 8) (oi := _) (v := .tuple #[dval GB p2 q2, .int .i64 eB]) (d := some 38) rfl rfl (by kernel_rfl) (by kernel_rfl) (by kernel_rfl) (fun _ _ _ h => h) rfl (fun W => by rfl) ?_
          simp only [Act.put, List.setIfInBounds_toArray, List.set_cons_zero, List.set_cons_succ]
          refine wpLate_take0 (i := 9) (oi := _) (v := dval GB p2 q2) (d := some 47) rfl rfl (by kernel_rfl) (by kernel_rfl) (by kernel_rfl) (fun _ _ _ h => h) rfl (fun W => by rfl) ?_
          simp only [Act.put, List.setIfInBounds_toArray, List.set_cons_zero, List.set_cons_succ]
          refine wpLate_take0 (i := 10) (oi := _) (v := .int .i64 eB) (d := some 48) rfl rfl (by kernel_rfl) (by kernel_rfl) (by kernel_rfl) (fun _ _ _ h => h) rfl (fun W => by rfl) ?_
          simp only [Act.put, List.setIfInBounds_toArray, List.set_cons_zero, List.set_cons_succ]
          refine wpLate_one (i := 12) (by kernel_rfl) rfl rfl (fun K hK => ?_)
          refine oper_skip (w' := ((((U4.setCell ⟨gb, 0, none⟩ (.string (bs GB.data))).setCell ⟨gb, 1, none⟩ (.slice p2.a GB.cache.length p2.c)).setCell ⟨gb, 2, none⟩ (.int .i64 GB.fuse)).setCell ⟨gb, 3, none⟩ (.bool GB.off)).setCell ⟨gb, 4, none⟩ (.slice q2.a GB.bad.length q2.c)) (by have k0 := blk5 b2; have f0 := b2.frozen; have c1 := b2.set 0 (.string (bs GB.data)); have f1 := c1.frozen; have k1 := blk5 c1; have c2 := c1.set 1 (.slice p2.a GB.cache.length p2.c); have f2 := c2.frozen; have k2 := blk5 c2; have c3 := c2.set 2 (.int .i64 GB.fuse); have f3 := c3.frozen; have k3 := blk5 c3; have c4 := c3.set 3 (.bool GB.off); have f4 := c4.frozen; have k4 := blk5 c4; go_simp) ?_
          show K (Act.put _ none _) _
          have b3 := blk_set5 b2 (.string (bs GB.data)) (.slice p2.a GB.cache.length p2.c) (.int .i64 GB.fuse) (.bool GB.off) (.slice q2.a GB.bad.length q2.c)
          have bw := below_set5 s2 gb0 (.string (bs GB.data)) (.slice p2.a GB.cache.length p2.c) (.int .i64 GB.fuse) (.bool GB.off) (.slice q2.a GB.bad.length q2.c)
          replace i2 := i2.off5 oB (.string (bs GB.data)) (.slice p2.a GB.cache.length p2.c) (.int .i64 GB.fuse) (.bool GB.off) (.slice q2.a GB.bad.length q2.c)
          refine hK _ _ (fun h => by cases h) ?_
          try simp only [Act.put, List.setIfInBounds_toArray, List.set_cons_zero, List.set_cons_succ]
          refine wpLate_take0 (i := 13) (oi := _) (v := .int .i64 eB) (d := some 12) rfl rfl (by kernel_rfl) (by kernel_rfl) (by kernel_rfl) (fun _ _ _ h => h) rfl (fun W => by rfl) ?_
          simp only [Act.put, List.setIfInBounds_toArray, List.set_cons_zero, List.set_cons_succ]
          refine wpLate_done (by kernel_rfl) ?_ _
          go_wp2_with fail
          go_meet
          exact ⟨gb, p2, q2, rfl, rfl, b3, i2, o4, bw⟩
      obtain ⟨gbB, pB, qB, rfl, rfl, bxB, ivB, obB, hvB⟩ := hcut
      clear hcB KSB KRB hEB kxB
      have StB := St1.later hvB
      have SpB := StB.put ivB (fun g hg h => obB g (by omega) h)
      have RowB := (Row1.later hvB).set5 StB.x (.string (bs GB.data)) (.slice pB.a GB.cache.length pB.c) (.int .i64 GB.fuse) (.bool GB.off) (.slice qB.a GB.bad.length qB.c)
      have kbB := blk5 bxB
      have kxB := blk5 StB.x
      have fxB := StB.x.frozen
      generalize hVB : wc = VB at *
      clear hVB
      by_cases heB : eB = 0
      · subst heB
        have HsB := hid (show jrSteps D (L.map Fd.it) = Pn.lay GB L[k].tx.plan by rw [Hs2.out, HyB.out, HGB.out, Dk.next_mk])
        clear Hs2
        go_upto_region 11 with fail
        clear kbB kxB fxB
        generalize ((((VB.setCell ⟨w.heap.size, 0, none⟩ (.string (bs GB.data))).setCell ⟨w.heap.size, 1, none⟩ (.slice pB.a GB.cache.length pB.c)).setCell ⟨w.heap.size, 2, none⟩ (.int .i64 GB.fuse)).setCell ⟨w.heap.size, 3, none⟩ (.bool GB.off)).setCell ⟨w.heap.size, 4, none⟩ (.slice qB.a GB.bad.length qB.c) = UB at SpB RowB ⊢
        obtain ⟨yC, hyC⟩ : ∃ y, L[k] = y := ⟨_, rfl⟩
        have hmC := RowB.cells k hk
        have hdC := RowB.ok _ (List.getElem_mem hk)
        have hlC := Hplan.out _ (List.getElem_mem hk)
        rw [hyC] at hmC hdC hlC
        have HyC := hid hyC
        obtain ⟨⟨GC, eC⟩, hGC⟩ : ∃ X, Pn.lay GB yC.tx.plan = X := ⟨_, rfl⟩
        have hcC := fun (W : World) (hW : Below UB.heap.size UB W) => hlay GB yC.tx.plan pB qB yC.p yC.q W (SpB.is.below hW) (hdC.pn.below hW) hlC.1 hlC.2
        simp only [hGC] at hcC
        have HGC := hid hGC
        clear hGC hyC hlC
        have KSC := fun (W : World) (hW : Below UB.heap.size UB W) => blk5 (SpB.x.below hW SpB.x.lt)
        have KRC := fun (W : World) (hW : Below UB.heap.size UB W) => And.intro (cell_below hW hmC.2.2.1) (cell_below hW hmC.2.2.2)
        have hgjC := SpB.j.lt
        have hEC := hid SpB.is
        have kxC := blk5 SpB.x
        clear hmC
        go_upto_region 13 with fail
        go_cut [13, 14] (fun sx sy wx => LayMade UB GB pB qB GC eC sx sy wx)
        case first =>
          have s0 : Below UB.heap.size UB UB.drew := (Below.refl _ _).drew
          refine wp_region_late (S := fun W => Below UB.heap.size UB W) (late := fun i => i == 12) (by kernel_rfl) ?_
          clear kxC
          generalize UB.drew = U0 at s0 ⊢
          simp only [List.size_toArray, List.length_cons, List.length_nil, Nat.reduceAdd, Array.replicate_succ, Array.replicate_zero, List.push_toArray, List.nil_append, List.cons_append]
          refine wpLate_take (i := 0) (oi := _) (v := dval GB pB qB) (d := some 56) rfl rfl (by kernel_rfl) (by kernel_rfl) (by kernel_rfl) (by kernel_rfl) (fun _ _ _ h => h) rfl (fun W hW => by have h := KSC W hW; go_simp) s0 ?_
          simp only [Act.put, List.setIfInBounds_toArray, List.set_cons_zero, List.set_cons_succ]
          refine wpLate_take0 (i := 1) (oi := _) (v := .slice (some ⟨fb, 0, none⟩) L.length cL) (d := some 57) rfl rfl (by kernel_rfl) (by kernel_rfl) (by kernel_rfl) (fun _ _ _ h => h) rfl (fun W => by rfl) ?_
          simp only [Act.put, List.setIfInBounds_toArray, List.set_cons_zero, List.set_cons_succ]
          refine wpLate_take0 (i := 2) (oi := _) (v := .int .i64 (k : Int)) (d := some 58) rfl rfl (by kernel_rfl) (by kernel_rfl) (by kernel_rfl) (fun _ _ _ h => h) rfl (fun W => by rfl) ?_
          simp only [Act.put, List.setIfInBounds_toArray, List.set_cons_zero, List.set_cons_succ]
          refine wpLate_take0 (i := 3) (oi := _) (v := .pointer (some ⟨fb, k * 4, none⟩)) (d := some 59) rfl rfl (by kernel_rfl) (by kernel_rfl) (by kernel_rfl) (fun _ _ _ h => h) rfl (fun W => by go_simp) ?_
          simp only [Act.put, List.setIfInBounds_toArray, List.set_cons_zero, List.set_cons_succ]
          refine wpLate_take0 (i := 4) (oi := _) (v := .pointer (some ⟨fb, k * 4 + 1, none⟩)) (d := some 60) rfl rfl (by kernel_rfl) (by kernel_rfl) (by kernel_rfl) (fun _ _ _ h => h) rfl (fun W => by go_simp) ?_
          simp only [Act.put, List.setIfInBounds_toArray, List.set_cons_zero, List.set_cons_succ]
          refine wpLate_take0 (i := 5) (oi := _) (v := .pointer (some ⟨fb, k * 4 + 1 + 1, none⟩)) (d := some 61) rfl rfl (by kernel_rfl) (by kernel_rfl) (by kernel_rfl) (fun _ _ _ h => h) rfl (fun W => by go_simp) ?_
          simp only [Act.put, List.setIfInBounds_toArray, List.set_cons_zero, List.set_cons_succ]
          refine wpLate_take (i := 6) (oi := _) (v := pval yC.tx.plan yC.p yC.q) (d := some 62) rfl rfl (by kernel_rfl) (by kernel_rfl) (by kernel_rfl) (by kernel_rfl) (fun _ _ _ h => h) rfl (fun W hW => by have h := KRC W hW; go_simp) s0 ?_
          simp only [Act.put, List.setIfInBounds_toArray, List.set_cons_zero, List.set_cons_succ]
          refine wpLate_two (i := 7) (k := 11) (by kernel_rfl) rfl rfl rfl rfl (fun K hK => ?_) (fun K hK => ?_)
          · skip
            refine oper_enter' (f := 85) (args := #[dval GB pB qB, pval yC.tx.plan yC.p yC.q]) (w' := U0) (by go_simp) ((hcC U0 s0).mono ?_)
            rintro e U3 ⟨⟨p2, q2, rfl, i2, o2⟩, hb⟩
            have o4 : ∀ h, h < UB.heap.size → DkOff h GB pB qB → DkOff h GC p2 q2 := fun h hh ho => o2 h (Nat.lt_of_lt_of_le hh s0.size) ho
            clear o2
            refine ⟨_, rfl, ?_⟩
            show K (Act.put _ (some 63) _) _
            have s1 := bt s0 hb
            refine hK _ _ (fun _ _ => s1) ?_
            simp only [Act.put, List.setIfInBounds_toArray, List.set_cons_zero, List.set_cons_succ]
            refine wpLate_take0 (i := 8) (oi := _) (v := .tuple #[dval GC p2 q2, .int .i64 eC]) (d := some 55) rfl rfl (by kernel_rfl) (by kernel_rfl) (by kernel_rfl) (fun _ _ _ h => h) rfl (fun W => by rfl) ?_
            simp only [Act.put, List.setIfInBounds_toArray, List.set_cons_zero, List.set_cons_succ]
            refine wpLate_take0 (i := 9) (oi := _) (v := dval GC p2 q2) (d := some 64) rfl rfl (by kernel_rfl) (by kernel_rfl) (by kernel_rfl) (fun _ _ _ h => h) rfl (fun W => by rfl) ?_
            simp only [Act.put, List.setIfInBounds_toArray, List.set_cons_zero, List.set_cons_succ]
            refine wpLate_take0 (i := 10) (oi := _) (v := .int .i64 eC) (d := some 65) rfl rfl (by kernel_rfl) (by kernel_rfl) (by kernel_rfl) (fun _ _ _ h => h) rfl (fun W => by rfl) ?_
            simp only [Act.put, List.setIfInBounds_toArray, List.set_cons_zero, List.set_cons_succ]
            refine wpLate_one (i := 11) (by kernel_rfl) rfl rfl (fun K hK => ?_)
            refine oper_ran (v := .pointer (some ⟨U3.heap.size, 0, none⟩)) (w' := U3.alloc (.cells #[.string (bs []), .slice none 0 0, .int .i64 0, .bool false, .slice none 0 0] 25)) (by go_simp) ?_
            show K (Act.put _ (some 13) _) _
            have s2 := s1.alloc s1.size (.cells #[.string (bs []), .slice none 0 0, .int .i64 0, .bool false, .slice none 0 0] 25)
            have b2 := Blk.new U3 25 #[.string (bs []), .slice none 0 0, .int .i64 0, .bool false, .slice none 0 0]
            have gb0 : UB.heap.size ≤ U3.heap.size := s1.size
            have oB := i2.apart (g := U3.heap.size) (Nat.le_refl _)
            replace i2 := i2.below ((Below.refl U3.heap.size U3).alloc (Nat.le_refl _) (.cells #[.string (bs []), .slice none 0 0, .int .i64 0, .bool false, .slice none 0 0] 25))
            refine hK _ _ (fun _ _ => s2) ?_
            generalize U3.alloc (.cells #[.string (bs []), .slice none 0 0, .int .i64 0, .bool false, .slice none 0 0] 25) = U4 at s2 b2 i2 ⊢
            generalize U3.heap.size = gb at b2 gb0 oB ⊢
            simp only [Act.put, List.setIfInBounds_toArray, List.set_cons_zero, List.set_cons_succ]
            refine wpLate_one (i := 12) (by kernel_rfl) rfl rfl (fun K hK => ?_)
            refine oper_skip (w' := ((((U4.setCell ⟨gb, 0, none⟩ (.string (bs GC.data))).setCell ⟨gb, 1, none⟩ (.slice p2.a GC.cache.length p2.c)).setCell ⟨gb, 2, none⟩ (.int .i64 GC.fuse)).setCell ⟨gb, 3, none⟩ (.bool GC.off)).setCell ⟨gb, 4, none⟩ (.slice q2.a GC.bad.length q2.c)) (by have k0 := blk5 b2; have f0 := b2.frozen; have c1 := b2.set 0 (.string (bs GC.data)); have f1 := c1.frozen; have k1 := blk5 c1; have c2 := c1.set 1 (.slice p2.a GC.cache.length p2.c); have f2 := c2.frozen; have k2 := blk5 c2; have c3 := c2.set 2 (.int .i64 GC.fuse); have f3 := c3.frozen; have k3 := blk5 c3; have c4 := c3.set 3 (.bool GC.off); have f4 := c4.frozen; have k4 := blk5 c4; go_simp) ?_
            show K (Act.put _ none _) _
            have b3 := blk_set5 b2 (.string (bs GC.data)) (.slice p2.a GC.cache.length p2.c) (.int .i64 GC.fuse) (.bool GC.off) (.slice q2.a GC.bad.length q2.c)
            have bw := below_set5 s2 gb0 (.string (bs GC.data)) (.slice p2.a GC.cache.length p2.c) (.int .i64 GC.fuse) (.bool GC.off) (.slice q2.a GC.bad.length q2.c)
            replace i2 := i2.off5 oB (.string (bs GC.data)) (.slice p2.a GC.cache.length p2.c) (.int .i64 GC.fuse) (.bool GC.off) (.slice q2.a GC.bad.length q2.c)
            refine hK _ _ (fun h => by cases h) ?_
            try simp only [Act.put, List.setIfInBounds_toArray, List.set_cons_zero, List.set_cons_succ]
            refine wpLate_take0 (i := 13) (oi := _) (v := .int .i64 eC) (d := some 14) rfl rfl (by kernel_rfl) (by kernel_rfl) (by kernel_rfl) (fun _ _ _ h => h) rfl (fun W => by rfl) ?_
            simp only [Act.put, List.setIfInBounds_toArray, List.set_cons_zero, List.set_cons_succ]
            refine wpLate_done (by kernel_rfl) ?_ _
            go_wp2_with fail
            go_meet
            exact ⟨gb, p2, q2, rfl, rfl, b3, i2, o4, bw⟩
          · skip
            refine oper_ran (v := .pointer (some ⟨U0.heap.size, 0, none⟩)) (w' := U0.alloc (.cells #[.string (bs []), .slice none 0 0, .int .i64 0, .bool false, .slice none 0 0] 25)) (by go_simp) ?_
            show K (Act.put _ (some 13) _) _
            have s1 := s0.alloc s0.size (.cells #[.string (bs []), .slice none 0 0, .int .i64 0, .bool false, .slice none 0 0] 25)
            have b1 := Blk.new U0 25 #[.string (bs []), .slice none 0 0, .int .i64 0, .bool false, .slice none 0 0]
            have gb0 : UB.heap.size ≤ U0.heap.size := s0.size
            refine hK _ _ (fun _ _ => s1) ?_
            generalize U0.alloc (.cells #[.string (bs []), .slice none 0 0, .int .i64 0, .bool false, .slice none 0 0] 25) = U3 at s1 b1 ⊢
            generalize U0.heap.size = gb at b1 gb0 ⊢
            simp only [Act.put, List.setIfInBounds_toArray, List.set_cons_zero, List.set_cons_succ]
            refine wpLate_one (i := 7) (by kernel_rfl) rfl rfl (fun K hK => ?_)
            refine oper_enter' (f := 85) (args := #[dval GB pB qB, pval yC.tx.plan yC.p yC.q]) (w' := U3) (by go_simp) ((hcC U3 s1).mono ?_)
            rintro e U4 ⟨⟨p2, q2, rfl, i2, o2⟩, hb⟩
            have o4 : ∀ h, h < UB.heap.size → DkOff h GB pB qB → DkOff h GC p2 q2 := fun h hh ho => o2 h (Nat.lt_of_lt_of_le hh s1.size) ho
            have oB := o2 gb b1.lt (hEC.out.apart gb0)
            have b2 := b1.below hb b1.lt
            clear b1
            clear o2
            refine ⟨_, rfl, ?_⟩
            show K (Act.put _ (some 63) _) _
            have s2 := bt s1 hb
            refine hK _ _ (fun _ _ => s2) ?_
            simp only [Act.put, List.setIfInBounds_toArray, List.set_cons_zero, List.set_cons_succ]
            refine wpLate_take0 (i := 8) (oi := _) (v := .tuple #[dval GC p2 q2, .int .i64 eC]) (d := some 55) rfl rfl (by kernel_rfl) (by kernel_rfl) (by kernel_rfl) (fun _ _ _ h => h) rfl (fun W => by rfl) ?_
            simp only [Act.put, List.setIfInBounds_toArray, List.set_cons_zero, List.set_cons_succ]
            refine wpLate_take0 (i := 9) (oi := _) (v := dval GC p2 q2) (d := some 64) rfl rfl (by kernel_rfl) (by kernel_rfl) (by kernel_rfl) (fun _ _ _ h => h) rfl (fun W => by rfl) ?_
            simp only [Act.put, List.setIfInBounds_toArray, List.set_cons_zero, List.set_cons_succ]
            refine wpLate_take0 (i := 10) (oi := _) (v := .int .i64 eC) (d := some 65) rfl rfl (by kernel_rfl) (by kernel_rfl) (by kernel_rfl) (fun _ _ _ h => h) rfl (fun W => by rfl) ?_
            simp only [Act.put, List.setIfInBounds_toArray, List.set_cons_zero, List.set_cons_succ]
            refine wpLate_one (i := 12) (by kernel_rfl) rfl rfl (fun K hK => ?_)
            refine oper_skip (w' := ((((U4.setCell ⟨gb, 0, none⟩ (.string (bs GC.data))).setCell ⟨gb, 1, none⟩ (.slice p2.a GC.cache.length p2.c)).setCell ⟨gb, 2, none⟩ (.int .i64 GC.fuse)).setCell ⟨gb, 3, none⟩ (.bool GC.off)).setCell ⟨gb, 4, none⟩ (.slice q2.a GC.bad.length q2.c)) (by have k0 := blk5 b2; have f0 := b2.frozen; have c1 := b2.set 0 (.string (bs GC.data)); have f1 := c1.frozen; have k1 := blk5 c1; have c2 := c1.set 1 (.slice p2.a GC.cache.length p2.c); have f2 := c2.frozen; have k2 := blk5 c2; have c3 := c2.set 2 (.int .i64 GC.fuse); have f3 := c3.frozen; have k3 := blk5 c3; have c4 := c3.set 3 (.bool GC.off); have f4 := c4.frozen; have k4 := blk5 c4; go_simp) ?_
            show K (Act.put _ none _) _
            have b3 := blk_set5 b2 (.string (bs GC.data)) (.slice p2.a GC.cache.length p2.c) (.int .i64 GC.fuse) (.bool GC.off) (.slice q2.a GC.bad.length q2.c)
            have bw := below_set5 s2 gb0 (.string (bs GC.data)) (.slice p2.a GC.cache.length p2.c) (.int .i64 GC.fuse) (.bool GC.off) (.slice q2.a GC.bad.length q2.c)
            replace i2 := i2.off5 oB (.string (bs GC.data)) (.slice p2.a GC.cache.length p2.c) (.int .i64 GC.fuse) (.bool GC.off) (.slice q2.a GC.bad.length q2.c)
            refine hK _ _ (fun h => by cases h) ?_
            try simp only [Act.put, List.setIfInBounds_toArray, List.set_cons_zero, List.set_cons_succ]
            refine wpLate_take0 (i := 13) (oi := _) (v := .int .i64 eC) (d := some 14) rfl rfl (by kernel_rfl) (by kernel_rfl) (by kernel_rfl) (fun _ _ _ h => h) rfl (fun W => by rfl) ?_
            simp only [Act.put, List.setIfInBounds_toArray, List.set_cons_zero, List.set_cons_succ]
            refine wpLate_done (by kernel_rfl) ?_ _
            go_wp2_with fail
            go_meet
            exact ⟨gb, p2, q2, rfl, rfl, b3, i2, o4, bw⟩
        obtain ⟨gbC, pC, qC, rfl, rfl, bxC, ivC, obC, hvC⟩ := hcut
        clear hcC KSC KRC hEC kxC
        have StC := SpB.later hvC
        have SpC := StC.put ivC (fun g hg h => obC g (by omega) h)
        have RowC := (RowB.later hvC).set5 StC.x (.string (bs GC.data)) (.slice pC.a GC.cache.length pC.c) (.int .i64 GC.fuse) (.bool GC.off) (.slice qC.a GC.bad.length qC.c)
        have kbC := blk5 bxC
        have kxC := blk5 StC.x
        have fxC := StC.x.frozen
        generalize hVC : wc = VC at *
        clear hVC
        have HstC := hid (show jrSteps D (L.map Fd.it) = (GC, eC) by rw [HsB.out, HyC.out, HGC.out])
        by_cases heC : eC = 0
        · subst heC
          have Hsteps := hid (show jrSteps D (L.map Fd.it) = (GC, 0) from HstC.out)
          have HEf := hid (show GC.fit = true by have := jrSteps_fit Hf.out (L.map Fd.it); rw [Hsteps.out] at this; exact this)
          have hpos := Hpos.out _ (List.mem_map.2 ⟨_, List.getElem_mem hk, rfl⟩)
          have hyk := Hokl.out _ (List.getElem_mem hk)
          have hln := (Hplan.out _ (List.getElem_mem hk)).2
          have Hnx := hid (show jrNext (L.map Fd.it) = ⟨min yC.tx.seq 4611686018427387903 + 1, yC.pos + txSize yC.tx.plan.targets.length⟩ by
            unfold jrNext; rw [hlast, HyC.out]; rfl)
          rw [HyC.out] at hpos hyk hln
          have hpos : yC.pos < 81 := hpos
          have hsq := hyk.2
          have hsize : txSize yC.tx.plan.targets.length ≤ 27 := by unfold txSize; split <;> omega
          clear HstC
          have cnC := RowC.cells k hk
          rw [HyC.out] at cnC
          obtain ⟨caC, cbC, ccC, cdC⟩ := cnC
          have tb := Blk.new (((((VC.setCell ⟨w.heap.size, 0, none⟩ (.string (bs GC.data))).setCell ⟨w.heap.size, 1, none⟩ (.slice pC.a GC.cache.length pC.c)).setCell ⟨w.heap.size, 2, none⟩ (.int .i64 GC.fuse)).setCell ⟨w.heap.size, 3, none⟩ (.bool GC.off)).setCell ⟨w.heap.size, 4, none⟩ (.slice qC.a GC.bad.length qC.c)) 92 #[.int .u64 yC.tx.seq, .slice yC.p.a yC.tx.plan.targets.length yC.p.c, .slice yC.q.a yC.tx.plan.data.length yC.q.c]
          rw [size_five] at tb
          have hbt := (Below.refl (((((VC.setCell ⟨w.heap.size, 0, none⟩ (.string (bs GC.data))).setCell ⟨w.heap.size, 1, none⟩ (.slice pC.a GC.cache.length pC.c)).setCell ⟨w.heap.size, 2, none⟩ (.int .i64 GC.fuse)).setCell ⟨w.heap.size, 3, none⟩ (.bool GC.off)).setCell ⟨w.heap.size, 4, none⟩ (.slice qC.a GC.bad.length qC.c)).heap.size (((((VC.setCell ⟨w.heap.size, 0, none⟩ (.string (bs GC.data))).setCell ⟨w.heap.size, 1, none⟩ (.slice pC.a GC.cache.length pC.c)).setCell ⟨w.heap.size, 2, none⟩ (.int .i64 GC.fuse)).setCell ⟨w.heap.size, 3, none⟩ (.bool GC.off)).setCell ⟨w.heap.size, 4, none⟩ (.slice qC.a GC.bad.length qC.c))).alloc (Nat.le_refl _) (.cells #[.int .u64 yC.tx.seq, .slice yC.p.a yC.tx.plan.targets.length yC.p.c, .slice yC.q.a yC.tx.plan.data.length yC.q.c] 92)
          have St5 := SpC.later hbt
          have Row5 := RowC.later hbt
          have hVg : gj9 < VC.heap.size := by have := StC.j.lt; rw [Hgj.out]; exact this
          go_wp2_with fail
          generalize (((((VC.setCell ⟨w.heap.size, 0, none⟩ (.string (bs GC.data))).setCell ⟨w.heap.size, 1, none⟩ (.slice pC.a GC.cache.length pC.c)).setCell ⟨w.heap.size, 2, none⟩ (.int .i64 GC.fuse)).setCell ⟨w.heap.size, 3, none⟩ (.bool GC.off)).setCell ⟨w.heap.size, 4, none⟩ (.slice qC.a GC.bad.length qC.c)).alloc (.cells #[.int .u64 yC.tx.seq, .slice yC.p.a yC.tx.plan.targets.length yC.p.c, .slice yC.q.a yC.tx.plan.data.length yC.q.c] 92) = Y at St5 Row5 tb ⊢
          clear caC cbC ccC cdC kbC kxC fxC hbt SpC
          have cm := (Row5.cells k hk).1
          rw [HyC.out] at cm
          have D1 := fun e : Ext Y => r6_size (yC.tx.plan.targets.length : Int) ⟨by omega, by omega⟩ e.world
          simp only [txSizeI_nat] at D1
          have X1 := fun e : Ext Y => e.cell cm
          have X2 := ext3 tb
          have wS := i64w (x := (yC.pos : Int) + (txSize yC.tx.plan.targets.length : Int)) ⟨by omega, by omega⟩
          refine wp_region_ext_tail 12 mixed (by kernel_rfl) (fun _ _ _ d _ h => by cases d <;> exact h) ?_
          simp only [List.take_succ_cons, List.take_zero, List.drop_succ_cons, List.drop_zero]
          repeat (go_big_quiet_step (((go_at_call 91; with_reducible exact ext_of (D1 _)))))
          refine wpQuiet_nil ?_
          rintro Z ⟨pq_, hpq_⟩
          have hZ := pq_.below
          rw [← hpq_] at hZ
          clear hpq_ pq_
          have St6 := St5.later hZ
          have tb6 := tb.below hZ tb.lt
          have kt6 := blk3 tb6
          have kj6 := blk2 St6.j
          have fj6 := St6.j.frozen
          have hne6 : ¬ VC.heap.size = w1.heap.size := by rw [Hgj.out] at hVg; omega
          have hne7 : ¬ w1.heap.size = VC.heap.size := by rw [Hgj.out] at hVg; omega
          have hj9 := St6.hj
          have hjn : w.heap.size + 1 + 1 + 1 < w1.heap.size := by have := Hgn.out; omega
          go_upto_region 19 with fail
          have St7 := St6.setj hjn 4611686018427387904 ((yC.pos : Int) + (txSize yC.tx.plan.targets.length : Int))
          have tb7 := blk_off2 tb6 (g := w1.heap.size) hne6 (.int .u64 4611686018427387904) (.int .i64 ((yC.pos : Int) + (txSize yC.tx.plan.targets.length : Int)))
          clear kt6 kj6 fj6 tb6 wS
          generalize (Z.setCell ⟨w1.heap.size, 0, none⟩ (.int .u64 4611686018427387904)).setCell ⟨w1.heap.size, 1, none⟩ (.int .i64 ((yC.pos : Int) + (txSize yC.tx.plan.targets.length : Int))) = Y2 at St7 tb7 ⊢
          have kt7 := blk3 tb7
          have kj7 := blk2 St7.j
          have fj7 := St7.j.frozen
          by_cases hsq62 : yC.tx.seq < 4611686018427387904
          · have Hnext := hid (show jrNext (L.map Fd.it) = ⟨yC.tx.seq + 1, yC.pos + txSize yC.tx.plan.targets.length⟩ by
              rw [Hnx.out, Nat.min_eq_left (by omega)])
            have g62 : (yC.tx.seq : Int) < 4611686018427387904 := by omega
            have wq := u64w (x := (yC.tx.seq : Int) + 1) ⟨by omega, by omega⟩
            clear hsq62 hsq
            have HM : Hid ((4611686018427387904 : Int) = ((4611686018427387904 : Nat) : Int)) := hid rfl
            generalize (4611686018427387904 : Int) = M at HM g62 kj7 fj7 St7 ⊢
            go_upto_region 21 with fail
            have St8 := St7.setseq hjn ((yC.tx.seq : Int) + 1)
            clear kt7 kj7 fj7 tb7
            generalize Y2.setCell ⟨w1.heap.size, 0, none⟩ (.int .u64 ((yC.tx.seq : Int) + 1)) = U9 at St8 ⊢
            obtain ⟨⟨F, ef⟩, hF⟩ : ∃ X, GC.flush = X := ⟨_, rfl⟩
            have hcF := hflush GC pC qC U9 St8.is HEf.out
            rw [hF] at hcF
            have Hend := hid (jrReplay_end HS.out Hsteps.out hF)
            clear hF
            have kxF := blk5 St8.x
            go_wp2_with fail
            go_at_call 81
            refine hcF.mono ?_
            rintro e U2 ⟨⟨p4, q4, rfl, i4, o4⟩, hb4⟩
            have St3 := St8.later hb4
            have St4 := St3.put i4 (fun g hg h => o4 g (by have := St8.j.lt; omega) h)
            have kxF2 := blk5 St3.x
            have fxF2 := St3.x.frozen
            clear kxF hcF
            by_cases hef : ef = 0
            · subst hef
              have Hw9 := hid (show jrReplay D = (F, ⟨yC.tx.seq + 1, yC.pos + txSize yC.tx.plan.targets.length⟩, 0) by rw [Hend.out, if_neg (by simp), Hnext.out])
              go_wp2_with fail
              clear kxF2 fxF2
              generalize ((((U2.setCell ⟨w.heap.size, 0, none⟩ (.string (bs F.data))).setCell ⟨w.heap.size, 1, none⟩ (.slice p4.a F.cache.length p4.c)).setCell ⟨w.heap.size, 2, none⟩ (.int .i64 F.fuse)).setCell ⟨w.heap.size, 3, none⟩ (.bool F.off)).setCell ⟨w.heap.size, 4, none⟩ (.slice q4.a F.bad.length q4.c) = U3 at St4 ⊢
              have kx9 := blk5 St4.x
              have kn9 := blk2 St4.n
              have kj9 := blk2 St4.j
              have kr9 := blk5 St4.r
              have fr9 := St4.r.frozen
              have ks9 := blk2 St4.s
              have fs9 := St4.s.frozen
              have hj9 := St4.hj
              have na9 : ¬ w1.heap.size = w.heap.size + 1 := by omega
              have nb9 : ¬ w.heap.size + 1 = w1.heap.size := by omega
              have nc9 : ¬ w1.heap.size = w.heap.size + 1 + 1 := by omega
              have nd9 : ¬ w.heap.size + 1 + 1 = w1.heap.size := by omega
              obtain ⟨Z9, hZ9, r9, s9, i9, b9⟩ := St4.fin (((yC.tx.seq : Int) + 1)) (((yC.pos : Int) + (txSize yC.tx.plan.targets.length : Int)))
              go_region
              rw [← hZ9]
              have yr9 := blk5 r9
              have ys9 := blk2 s9
              clear kx9 kn9 kj9 kr9 fr9 ks9 fs9 hZ9 hj9 na9 nb9 nc9 nd9
              go_wp2_with fail
              refine bodyPost_ret (v := .tuple #[dval F p4 q4, .agg #[.int .u64 (((yC.tx.seq : Int) + 1)), .int .i64 (((yC.pos : Int) + (txSize yC.tx.plan.targets.length : Int)))], .int .i64 0]) (by simp [results, Tryz.results43, go_sem, yr9, ys9]) rfl ?_
              exact ⟨⟨p4, q4, by rw [Hw9.out]; rfl, by rw [Hw9.out]; exact i9, by rw [Hw9.out]; exact St4.old⟩, b9⟩
            · have nF : (ef != 0) = true := by simpa using hef
              have Hw9 := hid (show jrReplay D = (F, Jr.none, ef) by rw [Hend.out, if_pos hef])
              clear hef
              go_wp2_with fail
              clear kxF2 fxF2
              generalize ((((U2.setCell ⟨w.heap.size, 0, none⟩ (.string (bs F.data))).setCell ⟨w.heap.size, 1, none⟩ (.slice p4.a F.cache.length p4.c)).setCell ⟨w.heap.size, 2, none⟩ (.int .i64 F.fuse)).setCell ⟨w.heap.size, 3, none⟩ (.bool F.off)).setCell ⟨w.heap.size, 4, none⟩ (.slice q4.a F.bad.length q4.c) = U3 at St4 ⊢
              have kx9 := blk5 St4.x
              have kn9 := blk2 St4.n
              have kj9 := blk2 St4.j
              have kr9 := blk5 St4.r
              have fr9 := St4.r.frozen
              have ks9 := blk2 St4.s
              have fs9 := St4.s.frozen
              have hj9 := St4.hj
              have na9 : ¬ w1.heap.size = w.heap.size + 1 := by omega
              have nb9 : ¬ w.heap.size + 1 = w1.heap.size := by omega
              have nc9 : ¬ w1.heap.size = w.heap.size + 1 + 1 := by omega
              have nd9 : ¬ w.heap.size + 1 + 1 = w1.heap.size := by omega
              obtain ⟨Z9, hZ9, r9, s9, i9, b9⟩ := St4.fin (1) (0)
              go_region
              rw [← hZ9]
              have yr9 := blk5 r9
              have ys9 := blk2 s9
              clear kx9 kn9 kj9 kr9 fr9 ks9 fs9 hZ9 hj9 na9 nb9 nc9 nd9
              go_wp2_with fail
              refine bodyPost_ret (v := .tuple #[dval F p4 q4, .agg #[.int .u64 (1), .int .i64 (0)], .int .i64 ef]) (by simp [results, Tryz.results43, go_sem, yr9, ys9]) rfl ?_
              exact ⟨⟨p4, q4, by rw [Hw9.out]; rfl, by rw [Hw9.out]; exact i9, by rw [Hw9.out]; exact St4.old⟩, b9⟩
          · have Hnext := hid (show jrNext (L.map Fd.it) = ⟨4611686018427387904, yC.pos + txSize yC.tx.plan.targets.length⟩ by
              rw [Hnx.out, Nat.min_eq_right (by omega)])
            have g62 : (4611686018427387904 : Int) ≤ (yC.tx.seq : Int) := by omega
            clear hsq62 hsq
            have HM : Hid ((4611686018427387904 : Int) = ((4611686018427387904 : Nat) : Int)) := hid rfl
            generalize (4611686018427387904 : Int) = M at HM g62 kj7 fj7 St7 ⊢
            go_upto_region 21 with fail
            clear kt7 kj7 fj7 tb7
            obtain ⟨⟨F, ef⟩, hF⟩ : ∃ X, GC.flush = X := ⟨_, rfl⟩
            have hcF := hflush GC pC qC Y2 St7.is HEf.out
            rw [hF] at hcF
            have Hend := hid (jrReplay_end HS.out Hsteps.out hF)
            clear hF
            have kxF := blk5 St7.x
            go_wp2_with fail
            go_at_call 81
            refine hcF.mono ?_
            rintro e U2 ⟨⟨p4, q4, rfl, i4, o4⟩, hb4⟩
            have St3 := St7.later hb4
            have St4 := St3.put i4 (fun g hg h => o4 g (by have := St7.j.lt; omega) h)
            have kxF2 := blk5 St3.x
            have fxF2 := St3.x.frozen
            clear kxF hcF
            by_cases hef : ef = 0
            · subst hef
              have Hw9 := hid (show jrReplay D = (F, ⟨4611686018427387904, yC.pos + txSize yC.tx.plan.targets.length⟩, 0) by rw [Hend.out, if_neg (by simp), Hnext.out])
              go_wp2_with fail
              clear kxF2 fxF2
              generalize ((((U2.setCell ⟨w.heap.size, 0, none⟩ (.string (bs F.data))).setCell ⟨w.heap.size, 1, none⟩ (.slice p4.a F.cache.length p4.c)).setCell ⟨w.heap.size, 2, none⟩ (.int .i64 F.fuse)).setCell ⟨w.heap.size, 3, none⟩ (.bool F.off)).setCell ⟨w.heap.size, 4, none⟩ (.slice q4.a F.bad.length q4.c) = U3 at St4 ⊢
              have kx9 := blk5 St4.x
              have kn9 := blk2 St4.n
              have kj9 := blk2 St4.j
              have kr9 := blk5 St4.r
              have fr9 := St4.r.frozen
              have ks9 := blk2 St4.s
              have fs9 := St4.s.frozen
              have hj9 := St4.hj
              have na9 : ¬ w1.heap.size = w.heap.size + 1 := by omega
              have nb9 : ¬ w.heap.size + 1 = w1.heap.size := by omega
              have nc9 : ¬ w1.heap.size = w.heap.size + 1 + 1 := by omega
              have nd9 : ¬ w.heap.size + 1 + 1 = w1.heap.size := by omega
              obtain ⟨Z9, hZ9, r9, s9, i9, b9⟩ := St4.fin (M) (((yC.pos : Int) + (txSize yC.tx.plan.targets.length : Int)))
              go_region
              rw [← hZ9]
              have yr9 := blk5 r9
              have ys9 := blk2 s9
              clear kx9 kn9 kj9 kr9 fr9 ks9 fs9 hZ9 hj9 na9 nb9 nc9 nd9
              go_wp2_with fail
              refine bodyPost_ret (v := .tuple #[dval F p4 q4, .agg #[.int .u64 (M), .int .i64 (((yC.pos : Int) + (txSize yC.tx.plan.targets.length : Int)))], .int .i64 0]) (by simp [results, Tryz.results43, go_sem, yr9, ys9]) rfl ?_
              exact ⟨⟨p4, q4, by rw [Hw9.out]; rw [HM.out], by rw [Hw9.out]; exact i9, by rw [Hw9.out]; exact St4.old⟩, b9⟩
            · have nF : (ef != 0) = true := by simpa using hef
              have Hw9 := hid (show jrReplay D = (F, Jr.none, ef) by rw [Hend.out, if_pos hef])
              clear hef
              go_wp2_with fail
              clear kxF2 fxF2
              generalize ((((U2.setCell ⟨w.heap.size, 0, none⟩ (.string (bs F.data))).setCell ⟨w.heap.size, 1, none⟩ (.slice p4.a F.cache.length p4.c)).setCell ⟨w.heap.size, 2, none⟩ (.int .i64 F.fuse)).setCell ⟨w.heap.size, 3, none⟩ (.bool F.off)).setCell ⟨w.heap.size, 4, none⟩ (.slice q4.a F.bad.length q4.c) = U3 at St4 ⊢
              have kx9 := blk5 St4.x
              have kn9 := blk2 St4.n
              have kj9 := blk2 St4.j
              have kr9 := blk5 St4.r
              have fr9 := St4.r.frozen
              have ks9 := blk2 St4.s
              have fs9 := St4.s.frozen
              have hj9 := St4.hj
              have na9 : ¬ w1.heap.size = w.heap.size + 1 := by omega
              have nb9 : ¬ w.heap.size + 1 = w1.heap.size := by omega
              have nc9 : ¬ w1.heap.size = w.heap.size + 1 + 1 := by omega
              have nd9 : ¬ w.heap.size + 1 + 1 = w1.heap.size := by omega
              obtain ⟨Z9, hZ9, r9, s9, i9, b9⟩ := St4.fin (1) (0)
              go_region
              rw [← hZ9]
              have yr9 := blk5 r9
              have ys9 := blk2 s9
              clear kx9 kn9 kj9 kr9 fr9 ks9 fs9 hZ9 hj9 na9 nb9 nc9 nd9
              go_wp2_with fail
              refine bodyPost_ret (v := .tuple #[dval F p4 q4, .agg #[.int .u64 (1), .int .i64 (0)], .int .i64 ef]) (by simp [results, Tryz.results43, go_sem, yr9, ys9]) rfl ?_
              exact ⟨⟨p4, q4, by rw [Hw9.out]; rfl, by rw [Hw9.out]; exact i9, by rw [Hw9.out]; exact St4.old⟩, b9⟩
        · skip
          have neC : (eC != 0) = true := by simpa using heC
          have HwC := hid (show jrReplay D = (GC, Jr.none, eC) from jrReplay_steps HS.out HstC.out heC)
          clear heC
          go_wp2_with fail
          clear kbC kxC fxC
          generalize ((((VC.setCell ⟨w.heap.size, 0, none⟩ (.string (bs GC.data))).setCell ⟨w.heap.size, 1, none⟩ (.slice pC.a GC.cache.length pC.c)).setCell ⟨w.heap.size, 2, none⟩ (.int .i64 GC.fuse)).setCell ⟨w.heap.size, 3, none⟩ (.bool GC.off)).setCell ⟨w.heap.size, 4, none⟩ (.slice qC.a GC.bad.length qC.c) = XC at SpC RowC ⊢
          have kx9 := blk5 SpC.x
          have kn9 := blk2 SpC.n
          have kj9 := blk2 SpC.j
          have kr9 := blk5 SpC.r
          have fr9 := SpC.r.frozen
          have ks9 := blk2 SpC.s
          have fs9 := SpC.s.frozen
          have hj9 := SpC.hj
          have na9 : ¬ w1.heap.size = w.heap.size + 1 := by omega
          have nb9 : ¬ w.heap.size + 1 = w1.heap.size := by omega
          have nc9 : ¬ w1.heap.size = w.heap.size + 1 + 1 := by omega
          have nd9 : ¬ w.heap.size + 1 + 1 = w1.heap.size := by omega
          obtain ⟨Z9, hZ9, r9, s9, i9, b9⟩ := SpC.fin (1) (0)
          go_region
          rw [← hZ9]
          have yr9 := blk5 r9
          have ys9 := blk2 s9
          clear kx9 kn9 kj9 kr9 fr9 ks9 fs9 hZ9 hj9 na9 nb9 nc9 nd9
          go_wp2_with fail
          refine bodyPost_ret (v := .tuple #[dval GC pC qC, .agg #[.int .u64 (1), .int .i64 (0)], .int .i64 eC]) (by simp [results, Tryz.results43, go_sem, yr9, ys9]) rfl ?_
          exact ⟨⟨pC, qC, by rw [HwC.out]; rfl, by rw [HwC.out]; exact i9, by rw [HwC.out]; exact SpC.old⟩, b9⟩
      · have HstB := hid (show jrSteps D (L.map Fd.it) = (GB, eB) by rw [Hs2.out, HyB.out, HGB.out]; exact Dk.next_err (X := (GB, eB)) heB)
        have neB : (eB != 0) = true := by simpa using heB
        have HwB := hid (show jrReplay D = (GB, Jr.none, eB) from jrReplay_steps HS.out HstB.out heB)
        clear heB
        go_wp2_with fail
        clear kbB kxB fxB
        generalize ((((VB.setCell ⟨w.heap.size, 0, none⟩ (.string (bs GB.data))).setCell ⟨w.heap.size, 1, none⟩ (.slice pB.a GB.cache.length pB.c)).setCell ⟨w.heap.size, 2, none⟩ (.int .i64 GB.fuse)).setCell ⟨w.heap.size, 3, none⟩ (.bool GB.off)).setCell ⟨w.heap.size, 4, none⟩ (.slice qB.a GB.bad.length qB.c) = XB at SpB RowB ⊢
        have kx9 := blk5 SpB.x
        have kn9 := blk2 SpB.n
        have kj9 := blk2 SpB.j
        have kr9 := blk5 SpB.r
        have fr9 := SpB.r.frozen
        have ks9 := blk2 SpB.s
        have fs9 := SpB.s.frozen
        have hj9 := SpB.hj
        have na9 : ¬ w1.heap.size = w.heap.size + 1 := by omega
        have nb9 : ¬ w.heap.size + 1 = w1.heap.size := by omega
        have nc9 : ¬ w1.heap.size = w.heap.size + 1 + 1 := by omega
        have nd9 : ¬ w.heap.size + 1 + 1 = w1.heap.size := by omega
        obtain ⟨Z9, hZ9, r9, s9, i9, b9⟩ := SpB.fin (1) (0)
        go_region
        rw [← hZ9]
        have yr9 := blk5 r9
        have ys9 := blk2 s9
        clear kx9 kn9 kj9 kr9 fr9 ks9 fs9 hZ9 hj9 na9 nb9 nc9 nd9
        go_wp2_with fail
        refine bodyPost_ret (v := .tuple #[dval GB pB qB, .agg #[.int .u64 (1), .int .i64 (0)], .int .i64 eB]) (by simp [results, Tryz.results43, go_sem, yr9, ys9]) rfl ?_
        exact ⟨⟨pB, qB, by rw [HwB.out]; rfl, by rw [HwB.out]; exact i9, by rw [HwB.out]; exact SpB.old⟩, b9⟩
end Go.Proofs.YtplgmlcoeehnfaaGreat
