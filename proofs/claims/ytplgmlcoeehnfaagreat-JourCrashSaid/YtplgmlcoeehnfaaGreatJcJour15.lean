/- Package jour: a replay. -/
import Derived.Test.YtplgmlcoeehnfaaGreatJcJour14
set_option linter.unusedVariables false
namespace Go.Proofs.YtplgmlcoeehnfaaGreat
open Go.RowKit Go.Shelf
attribute [local go_sem] bs_mk bs_append bs_extract bs_size bs_toList bs_get
set_option maxRecDepth 100000 in
set_option maxHeartbeats 4000000 in
theorem j_replay (D : Dk) (p q : Pl) (w : World) (hD : IsDk w D p q) (hf : D.fit = true) :
    Calls Tryz.prog 42 #[dval D p q] w fun e w' => RetJr w.heap.size D p q (jrReplay D) e w' ∧ Below w.heap.size w w' := by
  have hscan := fun (W : World) (hb : Below w.heap.size w W) => j_scan D p q W (hD.below hb) hf
  have Hok := hid (fun (x : Nat × Tx) (h : x ∈ (jrScan D).1) => jrScan_ok h)
  have Hpos := hid (fun (x : Nat × Tx) (h : x ∈ (jrScan D).1) => jrScan_pos h)
  have Hlen := hid (jrScan_len D)
  have hap := hid (fun g (hg : w.heap.size ≤ g) => hD.apart hg)
  have HD := hid hD
  obtain ⟨i1, hi1, hy0, hy1, hy2⟩ := info_parts Tryz.infoFound'
  obtain ⟨⟨fs, er⟩, hS⟩ : ∃ X, jrScan D = X := ⟨_, rfl⟩
  have HS := hid hS
  rw [hS] at hscan Hok Hlen Hpos
  have Hf := hid hf
  clear hS hD hf
  go_enter Tryz.func42, Tryz.ntmps42
  have hB := Below.refl w.heap.size w
  have x := Blk.new w 25 #[.string (bs D.data), .slice p.a D.cache.length p.c, .int .i64 D.fuse, .bool D.off, .slice q.a D.bad.length q.c]
  have xk := blk5 x
  have hB_1 := hB.alloc hB.size (.cells #[.string (bs D.data), .slice p.a D.cache.length p.c, .int .i64 D.fuse, .bool D.off, .slice q.a D.bad.length q.c] 25)
  have r := Blk.new (w.alloc (.cells #[.string (bs D.data), .slice p.a D.cache.length p.c, .int .i64 D.fuse, .bool D.off, .slice q.a D.bad.length q.c] 25)) 25 #[.string (bs []), .slice none 0 0, .int .i64 0, .bool false, .slice none 0 0]
  simp only [World.size_alloc] at r
  have rk := blk5 r
  have rkf := r.frozen
  have hB_2 := hB_1.alloc hB_1.size (.cells #[.string (bs []), .slice none 0 0, .int .i64 0, .bool false, .slice none 0 0] 25)
  have x_3 := x.alloc (.cells #[.string (bs []), .slice none 0 0, .int .i64 0, .bool false, .slice none 0 0] 25)
  have xk_3 := blk5 x_3
  have s := Blk.new ((w.alloc (.cells #[.string (bs D.data), .slice p.a D.cache.length p.c, .int .i64 D.fuse, .bool D.off, .slice q.a D.bad.length q.c] 25)).alloc (.cells #[.string (bs []), .slice none 0 0, .int .i64 0, .bool false, .slice none 0 0] 25)) 72 #[.int .u64 0, .int .i64 0]
  simp only [World.size_alloc] at s
  have sk := blk2 s
  have skf := s.frozen
  have hB_4 := hB_2.alloc hB_2.size (.cells #[.int .u64 0, .int .i64 0] 72)
  have x_5 := x_3.alloc (.cells #[.int .u64 0, .int .i64 0] 72)
  have xk_5 := blk5 x_5
  have r_6 := r.alloc (.cells #[.int .u64 0, .int .i64 0] 72)
  have rk_6 := blk5 r_6
  have rkf_6 := r_6.frozen
  have n := Blk.new (((w.alloc (.cells #[.string (bs D.data), .slice p.a D.cache.length p.c, .int .i64 D.fuse, .bool D.off, .slice q.a D.bad.length q.c] 25)).alloc (.cells #[.string (bs []), .slice none 0 0, .int .i64 0, .bool false, .slice none 0 0] 25)).alloc (.cells #[.int .u64 0, .int .i64 0] 72)) 72 #[.int .u64 1, .int .i64 0]
  simp only [World.size_alloc] at n
  have nk := blk2 n
  have hB_7 := hB_4.alloc hB_4.size (.cells #[.int .u64 1, .int .i64 0] 72)
  have x_8 := x_5.alloc (.cells #[.int .u64 1, .int .i64 0] 72)
  have xk_8 := blk5 x_8
  have r_9 := r_6.alloc (.cells #[.int .u64 1, .int .i64 0] 72)
  have rk_9 := blk5 r_9
  have rkf_9 := r_9.frozen
  have s_10 := s.alloc (.cells #[.int .u64 1, .int .i64 0] 72)
  have sk_10 := blk2 s_10
  have skf_10 := s_10.frozen
  go_wp2_with fail
  go_at_call 40
  refine ((hscan _ hB_7)).mono ?_
  rintro e w1 ⟨⟨L, v, hLm, rfl, hown, hok⟩, hb1⟩
  replace hB := bt hB_7 hb1
  replace x := x_8.below hb1 x_8.lt
  replace xk := blk5 x
  replace r := r_9.below hb1 r_9.lt
  replace rk := blk5 r
  replace rkf := r.frozen
  replace s := s_10.below hb1 s_10.lt
  replace sk := blk2 s
  replace skf := s.frozen
  replace n := n.below hb1 n.lt
  replace nk := blk2 n
  clear hB_1 hB_2 xk_3 x_3 hB_4 xk_5 x_5 rk_6 rkf_6 r_6 hB_7 xk_8 x_8 rk_9 rkf_9 r_9 sk_10 skf_10 s_10
  have hLm : L.map Fd.it = fs := hLm
  subst hLm
  have s1 := hb1.size
  simp only [World.size_alloc] at s1
  by_cases he : er = 0
  case neg =>
    have n1 : (er != 0) = true := by simpa using he
    have Hw := hid (jrReplay_err HS.out he)
    clear he
    have St0 : RpSt w w1 D p q D p q (w.heap.size + 1 + 1 + 1) 1 0 := ⟨x, r, s, n, n, by omega, HD.out.below hB, fun g hg _ => hap.out g hg, fun g _ h => h, hB⟩
    go_wp2_with fail
    clear x xk r rk rkf s sk skf n nk s1
    have kx9 := blk5 St0.x
    have kn9 := blk2 St0.n
    have kr9 := blk5 St0.r
    have fr9 := St0.r.frozen
    have ks9 := blk2 St0.s
    have fs9 := St0.s.frozen
    obtain ⟨Z9, hZ9, r9, s9, i9, b9⟩ := St0.fin 1 0
    go_region
    rw [← hZ9]
    have yr9 := blk5 r9
    have ys9 := blk2 s9
    clear kx9 kn9 kr9 fr9 ks9 fs9 hZ9
    go_wp2_with fail
    refine bodyPost_ret (v := .tuple #[dval D p q, .agg #[.int .u64 1, .int .i64 0], .int .i64 er]) (by simp [results, Tryz.results42, go_sem, yr9, ys9]) rfl ?_
    exact ⟨⟨p, q, by rw [Hw.out]; rfl, by rw [Hw.out]; exact i9, by rw [Hw.out]; exact St0.old⟩, b9⟩
  subst he
  have HD1 := hid (HD.out.below hB)
  go_upto_region 5 with fail
  go_cut [8, 9] (fun sj sw wx => TwoMade w1 D p q sj sw wx)
  case first =>
    have KX := fun (W : World) (hW : Below w1.heap.size w1 W) => blk5 (x.below hW x.lt)
    have KN := fun (W : World) (hW : Below w1.heap.size w1 W) => blk2 (n.below hW n.lt)
    have s0 : Below w1.heap.size w1 w1.drew := (Below.refl _ _).drew
    have z0 : w1.drew.heap.size = w1.heap.size := rfl
    refine wp_region_late (S := fun W => Below w1.heap.size w1 W) (late := fun _ => false) (by kernel_rfl) ?_
    clear xk nk
    generalize w1.drew = U0 at s0 z0 ⊢
    simp only [List.size_toArray, List.length_cons, List.length_nil, Nat.reduceAdd, Array.replicate_succ, Array.replicate_zero, List.push_toArray, List.nil_append, List.cons_append]
    refine wpLate_take (i := 0) (oi := _) (v := .agg #[.int .u64 1, .int .i64 0]) (d := some 25) rfl rfl (by kernel_rfl) (by kernel_rfl) (by kernel_rfl) (by kernel_rfl) (fun _ _ _ h => h) rfl (fun W hW => by have h := KN W hW; go_simp) s0 ?_
    simp only [Act.put, List.setIfInBounds_toArray, List.set_cons_zero, List.set_cons_succ]
    refine wpLate_take (i := 1) (oi := _) (v := dval D p q) (d := some 26) rfl rfl (by kernel_rfl) (by kernel_rfl) (by kernel_rfl) (by kernel_rfl) (fun _ _ _ h => h) rfl (fun W hW => by have h := KX W hW; go_simp) s0 ?_
    simp only [Act.put, List.setIfInBounds_toArray, List.set_cons_zero, List.set_cons_succ]
    refine wpLate_take0 (i := 2) (oi := _) (v := .agg #[.string (bs D.data), .slice p.a D.cache.length p.c, .int .i64 D.fuse, .bool D.off, .slice q.a D.bad.length q.c, .int .i64 0]) (d := some 27) rfl rfl (by kernel_rfl) (by kernel_rfl) (by kernel_rfl) (fun _ _ _ h => h) rfl (fun W => by go_simp) ?_
    simp only [Act.put, List.setIfInBounds_toArray, List.set_cons_zero, List.set_cons_succ]
    refine wpLate_two (i := 3) (k := 4) (by kernel_rfl) rfl rfl rfl rfl (fun K hK => ?_) (fun K hK => ?_)
    · skip
      refine oper_ran (v := .pointer (some ⟨U0.heap.size, 0, none⟩)) (w' := U0.alloc (.cells #[.string (bs D.data), .slice p.a D.cache.length p.c, .int .i64 D.fuse, .bool D.off, .slice q.a D.bad.length q.c, .int .i64 0] 138)) (by go_simp) ?_
      show K (Act.put _ (some 28) _) _
      have s1 := s0.alloc s0.size (.cells #[.string (bs D.data), .slice p.a D.cache.length p.c, .int .i64 D.fuse, .bool D.off, .slice q.a D.bad.length q.c, .int .i64 0] 138)
      have bk := Blk.new U0 138 #[.string (bs D.data), .slice p.a D.cache.length p.c, .int .i64 D.fuse, .bool D.off, .slice q.a D.bad.length q.c, .int .i64 0]
      have gk0 : w1.heap.size ≤ U0.heap.size ∧ U0.heap.size ≤ w1.heap.size + 1 := by have := s0.size; omega
      have zk : (U0.alloc (.cells #[.string (bs D.data), .slice p.a D.cache.length p.c, .int .i64 D.fuse, .bool D.off, .slice q.a D.bad.length q.c, .int .i64 0] 138)).heap.size = U0.heap.size + 1 := by simp
      refine hK _ _ (fun _ _ => s1) ?_
      generalize U0.alloc (.cells #[.string (bs D.data), .slice p.a D.cache.length p.c, .int .i64 D.fuse, .bool D.off, .slice q.a D.bad.length q.c, .int .i64 0] 138) = U1 at s1 bk zk ⊢
      generalize hgw : U0.heap.size = gw at bk gk0 zk ⊢
      simp only [Act.put, List.setIfInBounds_toArray, List.set_cons_zero, List.set_cons_succ]
      refine wpLate_one (i := 4) (by kernel_rfl) rfl rfl (fun K hK => ?_)
      refine oper_ran (v := .pointer (some ⟨U1.heap.size, 0, none⟩)) (w' := U1.alloc (.cells #[.int .u64 0, .int .i64 0] 72)) (by go_simp) ?_
      show K (Act.put _ (some 8) _) _
      have s2 := s1.alloc s1.size (.cells #[.int .u64 0, .int .i64 0] 72)
      have bz := Blk.new U1 72 #[.int .u64 0, .int .i64 0]
      have gj0 : w1.heap.size ≤ U1.heap.size ∧ U1.heap.size ≤ w1.heap.size + 1 := by have := s1.size; omega
      have hne : gw ≠ U1.heap.size := by omega
      replace bk := bk.alloc (.cells #[.int .u64 0, .int .i64 0] 72)
      refine hK _ _ (fun _ _ => s2) ?_
      generalize U1.alloc (.cells #[.int .u64 0, .int .i64 0] 72) = U2 at s2 bk bz ⊢
      generalize U1.heap.size = gj at bz gj0 hne ⊢
      simp only [Act.put, List.setIfInBounds_toArray, List.set_cons_zero, List.set_cons_succ]
      refine wpLate_one (i := 5) (by kernel_rfl) rfl rfl (fun K hK => ?_)
      refine oper_skip (w' := (U2.setCell ⟨gj, 0, none⟩ (.int .u64 1)).setCell ⟨gj, 1, none⟩ (.int .i64 0)) (by have u0 := blk2 bz; have uf := bz.frozen; have qq := bz.set 0 (.int .u64 1); have uf2 := qq.frozen; have u1 := blk2 qq; go_simp) ?_
      show K (Act.put _ none _) _
      have bz3 := blk_set2 bz (.int .u64 1) (.int .i64 0)
      have bk3 := blk_off2 bk (g := gj) hne (.int .u64 1) (.int .i64 0)
      have bw := below_set2 s2 gj0.1 (.int .u64 1) (.int .i64 0)
      refine hK _ _ (fun _ _ => bw) ?_
      try simp only [Act.put, List.setIfInBounds_toArray, List.set_cons_zero, List.set_cons_succ]
      refine wpLate_take0 (i := 6) (oi := _) (v := .pointer (some ⟨gw, 0, none⟩)) (d := some 9) rfl rfl (by kernel_rfl) (by kernel_rfl) (by kernel_rfl) (fun _ _ _ h => h) rfl (fun W => by rfl) ?_
      simp only [Act.put, List.setIfInBounds_toArray, List.set_cons_zero, List.set_cons_succ]
      refine wpLate_done (by kernel_rfl) ?_ _
      go_wp2_with fail
      go_meet
      exact ⟨gj, gw, rfl, rfl, hne, gk0.1, gj0.1, gk0.2, gj0.2, bk3, bz3, bw⟩
    · skip
      refine oper_ran (v := .pointer (some ⟨U0.heap.size, 0, none⟩)) (w' := U0.alloc (.cells #[.int .u64 0, .int .i64 0] 72)) (by go_simp) ?_
      show K (Act.put _ (some 8) _) _
      have s1 := s0.alloc s0.size (.cells #[.int .u64 0, .int .i64 0] 72)
      have bz := Blk.new U0 72 #[.int .u64 0, .int .i64 0]
      have gj0 : w1.heap.size ≤ U0.heap.size ∧ U0.heap.size ≤ w1.heap.size + 1 := by have := s0.size; omega
      have zk : (U0.alloc (.cells #[.int .u64 0, .int .i64 0] 72)).heap.size = U0.heap.size + 1 := by simp
      refine hK _ _ (fun _ _ => s1) ?_
      generalize U0.alloc (.cells #[.int .u64 0, .int .i64 0] 72) = U1 at s1 bz zk ⊢
      generalize hgj : U0.heap.size = gj at bz gj0 zk ⊢
      simp only [Act.put, List.setIfInBounds_toArray, List.set_cons_zero, List.set_cons_succ]
      refine wpLate_two (i := 3) (k := 5) (by kernel_rfl) rfl rfl rfl rfl (fun K hK => ?_) (fun K hK => ?_)
      · skip
        refine oper_ran (v := .pointer (some ⟨U1.heap.size, 0, none⟩)) (w' := U1.alloc (.cells #[.string (bs D.data), .slice p.a D.cache.length p.c, .int .i64 D.fuse, .bool D.off, .slice q.a D.bad.length q.c, .int .i64 0] 138)) (by go_simp) ?_
        show K (Act.put _ (some 28) _) _
        have s2 := s1.alloc s1.size (.cells #[.string (bs D.data), .slice p.a D.cache.length p.c, .int .i64 D.fuse, .bool D.off, .slice q.a D.bad.length q.c, .int .i64 0] 138)
        have bk := Blk.new U1 138 #[.string (bs D.data), .slice p.a D.cache.length p.c, .int .i64 D.fuse, .bool D.off, .slice q.a D.bad.length q.c, .int .i64 0]
        have gk0 : w1.heap.size ≤ U1.heap.size ∧ U1.heap.size ≤ w1.heap.size + 1 := by have := s1.size; omega
        have hne : U1.heap.size ≠ gj := by omega
        replace bz := bz.alloc (.cells #[.string (bs D.data), .slice p.a D.cache.length p.c, .int .i64 D.fuse, .bool D.off, .slice q.a D.bad.length q.c, .int .i64 0] 138)
        refine hK _ _ (fun _ _ => s2) ?_
        generalize U1.alloc (.cells #[.string (bs D.data), .slice p.a D.cache.length p.c, .int .i64 D.fuse, .bool D.off, .slice q.a D.bad.length q.c, .int .i64 0] 138) = U2 at s2 bk bz ⊢
        generalize U1.heap.size = gw at bk gk0 hne ⊢
        simp only [Act.put, List.setIfInBounds_toArray, List.set_cons_zero, List.set_cons_succ]
        refine wpLate_one (i := 5) (by kernel_rfl) rfl rfl (fun K hK => ?_)
        refine oper_skip (w' := (U2.setCell ⟨gj, 0, none⟩ (.int .u64 1)).setCell ⟨gj, 1, none⟩ (.int .i64 0)) (by have u0 := blk2 bz; have uf := bz.frozen; have qq := bz.set 0 (.int .u64 1); have uf2 := qq.frozen; have u1 := blk2 qq; go_simp) ?_
        show K (Act.put _ none _) _
        have bz3 := blk_set2 bz (.int .u64 1) (.int .i64 0)
        have bk3 := blk_off2 bk (g := gj) hne (.int .u64 1) (.int .i64 0)
        have bw := below_set2 s2 gj0.1 (.int .u64 1) (.int .i64 0)
        refine hK _ _ (fun _ _ => bw) ?_
        try simp only [Act.put, List.setIfInBounds_toArray, List.set_cons_zero, List.set_cons_succ]
        refine wpLate_take0 (i := 6) (oi := _) (v := .pointer (some ⟨gw, 0, none⟩)) (d := some 9) rfl rfl (by kernel_rfl) (by kernel_rfl) (by kernel_rfl) (fun _ _ _ h => h) rfl (fun W => by rfl) ?_
        simp only [Act.put, List.setIfInBounds_toArray, List.set_cons_zero, List.set_cons_succ]
        refine wpLate_done (by kernel_rfl) ?_ _
        go_wp2_with fail
        go_meet
        exact ⟨gj, gw, rfl, rfl, hne, gk0.1, gj0.1, gk0.2, gj0.2, bk3, bz3, bw⟩
      · skip
        refine oper_skip (w' := (U1.setCell ⟨gj, 0, none⟩ (.int .u64 1)).setCell ⟨gj, 1, none⟩ (.int .i64 0)) (by have u0 := blk2 bz; have uf := bz.frozen; have qq := bz.set 0 (.int .u64 1); have uf2 := qq.frozen; have u1 := blk2 qq; go_simp) ?_
        show K (Act.put _ none _) _
        have bz3 := blk_set2 bz (.int .u64 1) (.int .i64 0)
        have bw := below_set2 s1 gj0.1 (.int .u64 1) (.int .i64 0)
        have zk3 : ((U1.setCell ⟨gj, 0, none⟩ (.int .u64 1)).setCell ⟨gj, 1, none⟩ (.int .i64 0)).heap.size = U1.heap.size := by simp
        refine hK _ _ (fun _ _ => bw) ?_
        generalize (U1.setCell ⟨gj, 0, none⟩ (.int .u64 1)).setCell ⟨gj, 1, none⟩ (.int .i64 0) = U3 at bz3 bw zk3 ⊢
        try simp only [Act.put, List.setIfInBounds_toArray, List.set_cons_zero, List.set_cons_succ]
        refine wpLate_one (i := 3) (by kernel_rfl) rfl rfl (fun K hK => ?_)
        refine oper_ran (v := .pointer (some ⟨U3.heap.size, 0, none⟩)) (w' := U3.alloc (.cells #[.string (bs D.data), .slice p.a D.cache.length p.c, .int .i64 D.fuse, .bool D.off, .slice q.a D.bad.length q.c, .int .i64 0] 138)) (by go_simp) ?_
        show K (Act.put _ (some 28) _) _
        have s2 := bw.alloc bw.size (.cells #[.string (bs D.data), .slice p.a D.cache.length p.c, .int .i64 D.fuse, .bool D.off, .slice q.a D.bad.length q.c, .int .i64 0] 138)
        have bk := Blk.new U3 138 #[.string (bs D.data), .slice p.a D.cache.length p.c, .int .i64 D.fuse, .bool D.off, .slice q.a D.bad.length q.c, .int .i64 0]
        have gk0 : w1.heap.size ≤ U3.heap.size ∧ U3.heap.size ≤ w1.heap.size + 1 := by have := bw.size; omega
        have hne : U3.heap.size ≠ gj := by omega
        replace bz3 := bz3.alloc (.cells #[.string (bs D.data), .slice p.a D.cache.length p.c, .int .i64 D.fuse, .bool D.off, .slice q.a D.bad.length q.c, .int .i64 0] 138)
        refine hK _ _ (fun _ _ => s2) ?_
        generalize U3.alloc (.cells #[.string (bs D.data), .slice p.a D.cache.length p.c, .int .i64 D.fuse, .bool D.off, .slice q.a D.bad.length q.c, .int .i64 0] 138) = U2 at s2 bk bz3 ⊢
        generalize U3.heap.size = gw at bk gk0 hne ⊢
        simp only [Act.put, List.setIfInBounds_toArray, List.set_cons_zero, List.set_cons_succ]
        refine wpLate_take0 (i := 6) (oi := _) (v := .pointer (some ⟨gw, 0, none⟩)) (d := some 9) rfl rfl (by kernel_rfl) (by kernel_rfl) (by kernel_rfl) (fun _ _ _ h => h) rfl (fun W => by rfl) ?_
        simp only [Act.put, List.setIfInBounds_toArray, List.set_cons_zero, List.set_cons_succ]
        refine wpLate_done (by kernel_rfl) ?_ _
        go_wp2_with fail
        go_meet
        exact ⟨gj, gw, rfl, rfl, hne, gk0.1, gj0.1, gk0.2, gj0.2, bk, bz3, s2⟩
  obtain ⟨gj, gw, rfl, rfl, hne, hgw, hgj, hgw1, hgj1, bw, bj, hbc⟩ := hcut
  have HB9 := hB.trans (hbc.mono hB.size)
  have St : JpSt w wc D p q D p q gw gj 0 1 0 :=
    ⟨(r.below hbc r.lt), (s.below hbc s.lt), (n.below hbc n.lt), bw, bj, by omega, by omega, hne, HD.out.below HB9, fun g hg _ => hap.out g hg, fun g _ h => h, HB9⟩
  have hownc := own_later hown hbc
  have hokc := hok.below hbc
  have HEf0 := hid Hf.out
  clear x xk r rk rkf s sk skf n nk bw bj HB9 HD1 hbc hown hok hgw1 hgj1 hb1
  cases L with
  | nil =>
    obtain ⟨AL, cL, rfl, _⟩ := own_slice hownc
    have Hsteps := hid (show jrSteps D ([].map Fd.it) = (D, 0) from rfl)
    have Hnext := hid (show jrNext ([].map Fd.it) = ⟨1, 0⟩ from rfl)
    clear hownc hokc
    go_upto_region 16 with fail
    obtain ⟨⟨F, ef⟩, hF⟩ : ∃ X, D.flush = X := ⟨_, rfl⟩
    have Hend := hid (jrReplay_end HS.out Hsteps.out hF)
    have hbF := (Below.refl wc.heap.size wc).alloc (Nat.le_refl _) (.cells #[.func (.func 78) #[] #[]] 140)
    have St3 := St.later hbF
    have cF : Cells (wc.alloc (.cells #[.func (.func 78) #[] #[]] 140)) (some ⟨wc.heap.size, 0, none⟩) ([Stp.flush].map Stp.val) := cells_new wc [.func (.func 78) #[] #[]] 140
    have hkl := St.k.lt
    have hdo := j_do [Stp.flush] D p q gw (some ⟨wc.heap.size, 0, none⟩) 1 _ St3.k St3.is HEf0.out (St3.off _ (by have := St3.hw; omega) (.inl (Nat.le_refl _))) cF (fun b off e => by injection e with e; injection e with e; omega) (by decide) (fun s hs W' hg => by obtain rfl := List.mem_singleton.1 hs; trivial)
    rw [runAll_one] at hdo
    simp only [Stp.run, hF, List.length_cons, List.length_nil, Nat.zero_add] at hdo
    clear hF cF
    go_wp2_with fail
    go_at_call 77
    refine hdo.mono ?_
    rintro e W2 ⟨rfl, hgF, p4, q4, hk4, hi4, ho4, hold4⟩
    have St4 := St3.did hgF hk4 hi4 hold4
    have kk4 := blk6 St4.k
    clear hdo hgF hk4 hi4 ho4 hold4 St3 hbF
    by_cases hef : ef = 0
    · subst hef
      have Hw9 := hid (show jrReplay D = (F, ⟨1, 0⟩, 0) by rw [Hend.out, if_neg (by simp), Hnext.out])
      go_wp2_with fail
      clear kk4
      have kk9 := blk6 St4.k
      have kn9 := blk2 St4.n
      have kj9 := blk2 St4.j
      have kr9 := blk5 St4.r
      have fr9 := St4.r.frozen
      have ks9 := blk2 St4.s
      have fs9 := St4.s.frozen
      have hj9 := St4.hj
      have hw9 := St4.hw
      have na9 : ¬ gj = w.heap.size + 1 := by omega
      have nb9 : ¬ w.heap.size + 1 = gj := by omega
      have nc9 : ¬ gj = w.heap.size + 1 + 1 := by omega
      have nd9 : ¬ w.heap.size + 1 + 1 = gj := by omega
      have ne9 : ¬ gw = w.heap.size + 1 := by omega
      have nf9 : ¬ w.heap.size + 1 = gw := by omega
      have ng9 : ¬ gw = w.heap.size + 1 + 1 := by omega
      have nh9 : ¬ w.heap.size + 1 + 1 = gw := by omega
      obtain ⟨Z9, hZ9, r9, s9, i9, b9⟩ := St4.fin (1) (0)
      go_region
      rw [← hZ9]
      have yr9 := blk5 r9
      have ys9 := blk2 s9
      clear kk9 kn9 kj9 kr9 fr9 ks9 fs9 hZ9 hj9 hw9 na9 nb9 nc9 nd9 ne9 nf9 ng9 nh9
      go_wp2_with fail
      refine bodyPost_ret (v := .tuple #[dval F p4 q4, .agg #[.int .u64 (1), .int .i64 (0)], .int .i64 0]) (by simp [results, Tryz.results42, go_sem, yr9, ys9]) rfl ?_
      exact ⟨⟨p4, q4, by rw [Hw9.out]; try rfl, by rw [Hw9.out]; exact i9, by rw [Hw9.out]; exact St4.old⟩, b9⟩
    · have nF : (ef != 0) = true := by simpa using hef
      have Hw9 := hid (show jrReplay D = (F, Jr.none, ef) by rw [Hend.out, if_pos hef])
      clear hef
      go_wp2_with fail
      clear kk4
      have kk9 := blk6 St4.k
      have kn9 := blk2 St4.n
      have kj9 := blk2 St4.j
      have kr9 := blk5 St4.r
      have fr9 := St4.r.frozen
      have ks9 := blk2 St4.s
      have fs9 := St4.s.frozen
      have hj9 := St4.hj
      have hw9 := St4.hw
      have na9 : ¬ gj = w.heap.size + 1 := by omega
      have nb9 : ¬ w.heap.size + 1 = gj := by omega
      have nc9 : ¬ gj = w.heap.size + 1 + 1 := by omega
      have nd9 : ¬ w.heap.size + 1 + 1 = gj := by omega
      have ne9 : ¬ gw = w.heap.size + 1 := by omega
      have nf9 : ¬ w.heap.size + 1 = gw := by omega
      have ng9 : ¬ gw = w.heap.size + 1 + 1 := by omega
      have nh9 : ¬ w.heap.size + 1 + 1 = gw := by omega
      obtain ⟨Z9, hZ9, r9, s9, i9, b9⟩ := St4.fin (1) (0)
      go_region
      rw [← hZ9]
      have yr9 := blk5 r9
      have ys9 := blk2 s9
      clear kk9 kn9 kj9 kr9 fr9 ks9 fs9 hZ9 hj9 hw9 na9 nb9 nc9 nd9 ne9 nf9 ng9 nh9
      go_wp2_with fail
      refine bodyPost_ret (v := .tuple #[dval F p4 q4, .agg #[.int .u64 (1), .int .i64 (0)], .int .i64 ef]) (by simp [results, Tryz.results42, go_sem, yr9, ys9]) rfl ?_
      exact ⟨⟨p4, q4, by rw [Hw9.out]; try rfl, by rw [Hw9.out]; exact i9, by rw [Hw9.out]; exact St4.old⟩, b9⟩
  | cons a l =>
    have hne0 : a :: l ≠ [] := by intro h; cases h
    have hlp : 0 < (a :: l).length := by simp
    generalize a :: l = L at *
    rcases hownc.2 with ⟨h', h''⟩ | ⟨fb, cL, cur, rfl, _⟩
    · omega
    have hokx : ∀ x ∈ L, x.tx.Ok ∧ x.tx.seq < 18446744073709551616 := fun x hx => Hok.out x.it (List.mem_map.2 ⟨x, hx, rfl⟩)
    have Hplan := hid (fun (x : Fd) (hx : x ∈ L) => show x.tx.plan.targets.length = x.tx.plan.data.length ∧ x.tx.plan.targets.length ≤ 1000000 from ⟨(hokx x hx).1.1.1, Nat.le_trans (hokx x hx).1.1.2.1 (by decide)⟩)
    have hokl : ∀ x ∈ L, 0 < x.tx.plan.targets.length ∧ x.tx.seq < 18446744073709551616 := fun x hx => ⟨List.length_pos_iff.2 (hokx x hx).1.2, (hokx x hx).2⟩
    have hL81 : L.length ≤ 81 := by have := Hlen.out; rwa [List.length_map] at this
    have hnew := j_newest L (some ⟨fb, 0, none⟩) cL wc (Cells.of_own hownc) hne0 (by omega) hokl
    have Hokl := hid hokl
    clear hokx hokl
    go_wp2_with fail
    go_at_call 94
    refine hnew.mono ?_
    rintro e U1 ⟨⟨y, b, v2, rfl, hym, hlast, hbm, hbit, hown2⟩, hbU⟩
    have Hlast := hid hlast
    have Hbit := hid hbit
    have hb1 : b.length ≤ 1 := by
      have := congrArg List.length hbit
      rw [List.length_map] at this
      cases hj : jrBefore (L.map Fd.it) y.tx.seq with
      | none => rw [hj] at this; simp only [Option.toList_none, List.length_nil] at this; omega
      | some z => rw [hj] at this; simp only [Option.toList_some, List.length_cons, List.length_nil] at this; omega
    have hMm : ∀ x ∈ b ++ [y], x ∈ L := fun x hx => by
      rcases List.mem_append.1 hx with h | h
      · exact hbm x h
      · obtain rfl := List.mem_singleton.1 h; exact hym
    have hyl := Hokl.out y hym
    have hyp := Hpos.out _ (List.mem_map.2 ⟨y, hym, rfl⟩)
    have hyp : y.pos < 81 := hyp
    have hy24 := (Hplan.out y hym).2
    clear hnew hlast hbit hbm
    obtain ⟨nb, hnb⟩ : ∃ nb, b.length = nb := ⟨_, rfl⟩
    rw [hnb] at hown2 hb1
    have Hnb := hid hnb
    obtain ⟨B2, c2, rfl, z1, z2, z3⟩ := own_slice hown2

    clear hnb
    have yb := Blk.new U1 94 #[.int .i64 y.pos, .int .u64 y.tx.seq, .slice y.p.a y.tx.plan.targets.length y.p.c, .slice y.q.a y.tx.plan.data.length y.q.c]
    have kyb := blk4 yb
    have hoa := hown2.alloc (.cells #[.int .i64 y.pos, .int .u64 y.tx.seq, .slice y.p.a y.tx.plan.targets.length y.p.c, .slice y.q.a y.tx.plan.data.length y.q.c] 94)
    have hU1 := hbU.size
    have Hlt2 := hid hown2.lt
    go_wp2_with (at_builtin; refine wpList_append_own _ rfl _ _ 80 rfl wc.heap.size 94 i1 (.agg #[.int .i64 0, .int .u64 0, .slice none 0 0, .slice none 0 0]) 4 64 Tryz.underlying80 hi1 hy0 hy1 hy2 rfl (by decide) _ nb (fdCells b) rfl (hoa.alloc _) ⟨U1.heap.size + 1, 0, none⟩ 1 1 [.int .i64 y.pos, .int .u64 y.tx.seq, .slice y.p.a y.tx.plan.targets.length y.p.c, .slice y.q.a y.tx.plan.data.length y.q.c] rfl rfl (World.news_of_block (blk_second U1 _ 94 #[.int .i64 y.pos, .int .u64 y.tx.seq, .slice y.p.a y.tx.plan.targets.length y.p.c, .slice y.q.a y.tx.plan.data.length y.q.c])) (by simp [Value.oneCell']) (by unfold maxLen; omega) (by omega) (by simp; omega) ?_; intro v3 w6 h6 gr6 _; obtain ⟨fbM, cM, rfl⟩ := ownsRow_succ h6)
    have hoa2 := hoa.alloc (.cells #[.int .i64 y.pos, .int .u64 y.tx.seq, .slice y.p.a y.tx.plan.targets.length y.p.c, .slice y.q.a y.tx.plan.data.length y.q.c] 94)
    have hb6 : Below wc.heap.size wc w6 := ((hbU.alloc hU1 (.cells #[.int .i64 y.pos, .int .u64 y.tx.seq, .slice y.p.a y.tx.plan.targets.length y.p.c, .slice y.q.a y.tx.plan.data.length y.q.c] 94)).alloc (by simp; omega) (.cells #[.int .i64 y.pos, .int .u64 y.tx.seq, .slice y.p.a y.tx.plan.targets.length y.p.c, .slice y.q.a y.tx.plan.data.length y.q.c] 94)).trans (grown_below hoa2 gr6 (by simp; omega))
    have St6 := St.later hb6
    have y6 := (yb.alloc (.cells #[.int .i64 y.pos, .int .u64 y.tx.seq, .slice y.p.a y.tx.plan.targets.length y.p.c, .slice y.q.a y.tx.plan.data.length y.q.c] 94)).kept gr6 (fun e => by have := (Hlt2.out _ e.symm).2; omega)
    have hMl : (b ++ [y]).length = nb + 1 := by rw [List.length_append, List.length_singleton, Hnb.out]
    have RowM : FdRow w6 wc.heap.size fbM cM (b ++ [y]) := ⟨by rw [hMl, ← fdCells_snoc]; exact h6, fun x hx => (hokc x (hMm x hx)).below hb6⟩
    have hgy : gw < U1.heap.size ∧ gj < U1.heap.size := ⟨Nat.lt_of_lt_of_le St.k.lt hU1, Nat.lt_of_lt_of_le St.j.lt hU1⟩
    have Hall := hid (show jrSteps D (L.map Fd.it) = runAll ((b ++ [y]).map fun x => Stp.laid 0 x.tx.plan) D by
      rw [jrSteps_run]
      unfold jrPlans
      rw [Hlast.out]
      simp only
      rw [show y.it.2.seq = y.tx.seq from rfl, ← Hbit.out]
      simp only [List.map_append, List.map_map, List.map_cons, List.map_nil]
      rfl)
    have hplanM := hid (fun (x : Fd) (hx : x ∈ b ++ [y]) => Hplan.out x (hMm x hx))
    have Hl1 := hid hMl
    clear St hb6 hoa hoa2 h6 gr6 hbU yb kyb hown2 hownc hokc hMm hMl Hlt2 z1 z2 z3
    generalize b ++ [y] = M at *
    go_loopw [42] (fun u W => ∃ i : Nat, i ≤ nb + 1 ∧ u = .int .i64 i ∧ ∃ (E : Dk) (p1 q1 : Pl), Hid (runAll ((M.take i).map fun x => Stp.laid 0 x.tx.plan) D = (E, 0)) ∧ Hid (E.fit = true) ∧ Hid (JpSt w W D p q E p1 q1 gw gj 0 1 0) ∧ Hid (FdRow W wc.heap.size fbM cM M) ∧ Hid (Blk W U1.heap.size 94 #[.int .i64 y.pos, .int .u64 y.tx.seq, .slice y.p.a y.tx.plan.targets.length y.p.c, .slice y.q.a y.tx.plan.data.length y.q.c])) (fun u _ => nb + 1 - (intOf u).toNat)
    case atStart => exact ⟨0, Nat.zero_le _, rfl, D, p, q, hid rfl, hid HEf0.out, hid St6, hid RowM, hid y6⟩
    case round =>
      obtain ⟨i, hi, rfl, E, p1, q1, hE, hEf, hSt, hRow, hY⟩ := hrel
      by_cases hlt : i < nb + 1
      · have hltM : i < M.length := by rw [Hl1.out]; exact hlt
        have hI : (i : Int) < (nb : Int) + 1 := by omega
        obtain ⟨m1, m2, m3, m4⟩ := hRow.out.cells i hltM
        have hx := hRow.out.ok _ (List.getElem_mem hltM)
        have hxp := hplanM.out _ (List.getElem_mem hltM)
        have Hn := hid (fun (X : Dk) (h : Pn.lay E M[i].tx.plan = (X, 0)) => show runAll ((M.take (i + 1)).map fun x => Stp.laid 0 x.tx.plan) D = (X, 0) by
          rw [List.take_succ_eq_append_getElem hltM, List.map_append, List.map_cons, List.map_nil, runAll_snoc _ _ _ (by rw [hE.out]), hE.out]; exact h)
        have Hst := hid (fun (X : Dk) (ex : Int) (h : Pn.lay E M[i].tx.plan = (X, ex)) (he : ex ≠ 0) => show jrSteps D (L.map Fd.it) = (X, ex) by
          have e0 : runAll ((M.take (i + 1)).map fun x => Stp.laid 0 x.tx.plan) D = (X, ex) := by
            rw [List.take_succ_eq_append_getElem hltM, List.map_append, List.map_cons, List.map_nil, runAll_snoc _ _ _ (by rw [hE.out]), hE.out]; exact h
          rw [Hall.out]
          have e1 : M = M.take (i + 1) ++ M.drop (i + 1) := (List.take_append_drop _ _).symm
          conv => lhs; rw [e1]
          rw [List.map_append, runAll_stop _ _ _ (by rw [e0]; exact he), e0])
        generalize M[i] = x at *
        obtain ⟨xp, xt, ⟨xa, xac⟩, ⟨xb, xbc⟩⟩ := x
        simp only at m1 m2 m3 m4 hxp Hn Hst
        have Hxp := hid hxp
        clear hxp hE
        obtain ⟨⟨X, ex⟩, hX⟩ : ∃ X, Pn.lay E xt.plan = X := ⟨_, rfl⟩
        have hfb := Blk.new wr 94 #[.int .i64 xp, .int .u64 xt.seq, .slice xa xt.plan.targets.length xac, .slice xb xt.plan.data.length xbc]
        have kfb := blk4 hfb
        have hd1 := (Below.refl wr.heap.size wr).alloc (Nat.le_refl _) (.cells #[.int .i64 xp, .int .u64 xt.seq, .slice xa xt.plan.targets.length xac, .slice xb xt.plan.data.length xbc] 94)
        have hd2 := hd1.alloc (by simp) (.cells #[.slice xa xt.plan.targets.length xac, .slice xb xt.plan.data.length xbc] 28)
        have hd3 := hd2.alloc (by simp; omega) (.cells #[.func (.func 144) #[] #[.pointer (some ⟨wr.heap.size + 1, 0, none⟩)]] 140)
        have gP := (blk_second wr (.cells #[.int .i64 xp, .int .u64 xt.seq, .slice xa xt.plan.targets.length xac, .slice xb xt.plan.data.length xbc] 94) 28 #[.slice xa xt.plan.targets.length xac, .slice xb xt.plan.data.length xbc]).alloc (.cells #[.func (.func 144) #[] #[.pointer (some ⟨wr.heap.size + 1, 0, none⟩)]] 140)
        have cF := cells_new ((wr.alloc (.cells #[.int .i64 xp, .int .u64 xt.seq, .slice xa xt.plan.targets.length xac, .slice xb xt.plan.data.length xbc] 94)).alloc (.cells #[.slice xa xt.plan.targets.length xac, .slice xb xt.plan.data.length xbc] 28)) [.func (.func 144) #[] #[.pointer (some ⟨wr.heap.size + 1, 0, none⟩)]] 140
        simp only [World.size_alloc] at cF
        have Std := hSt.out.later hd3
        have hxd := hx.below hd3
        have hkl := hSt.out.k.lt
        have hYl := hY.out.lt
        have hdo := j_do [Stp.laid (wr.heap.size + 1) xt.plan] E p1 q1 gw (some ⟨wr.heap.size + 1 + 1, 0, none⟩) 1 _ Std.k Std.is hEf.out (Std.off _ (by have := Std.hw; omega) (.inl (Nat.le_refl _))) cF (fun b off e => by injection e with e; injection e with e; omega) (by simp) (fun s hs W' hg => by
          obtain rfl := List.mem_singleton.1 hs
          exact ⟨⟨xa, xac⟩, ⟨xb, xbc⟩, gP.kept hg (by simp; omega), (hxd.grown Std.k (by decide) (by decide) hg).pn, Hxp.out.1, Hxp.out.2⟩)
        rw [runAll_one] at hdo
        simp only [Stp.run, hX, List.length_cons, List.length_nil, Nat.zero_add] at hdo
        have hXf : X.fit = true := by have := lay_fit hEf.out xt.plan; rw [hX] at this; exact this
        have HX := hid hX
        clear hX cF
        go_wp2_with fail
        go_at_call 80
        refine (j_laid _ _ _ _ _ _ _).mono ?_
        rintro e w8 ⟨rfl, rfl⟩
        go_wp2_with fail
        go_at_call 77
        refine hdo.mono ?_
        rintro e W2 ⟨rfl, hgF, p4, q4, hk4, hi4, ho4, hold4⟩
        have St4 := Std.did hgF hk4 hi4 hold4
        have Row4 := (hRow.out.later hd3).grown Std.k (by decide) (by decide) (by decide) hgF
        have Y4 := (hY.out.below hd3 hYl).kept hgF (by simp; omega)
        have kk4 := blk6 St4.k
        clear hdo hgF hk4 hi4 ho4 hold4 Std hd1 hd2 hd3 hxd gP hfb kfb m1 m2 m3 m4 hx
        by_cases hex : ex = 0
        · subst hex
          have Hn2 := hid (Hn.out X HX.out)
          clear Hn Hst
          go_wp2_with fail
          go_roundw
          case rel => exact ⟨i + 1, by omega, by go_num, X, p4, q4, Hn2, hid hXf, hid St4, hid Row4, hid Y4⟩
          case measure => simp [intOf]; omega
        · have nX : (ex != 0) = true := by simpa using hex
          have Hw9 := hid (show jrReplay D = (X, Jr.none, ex) from jrReplay_steps HS.out (Hst.out X ex HX.out hex) hex)
          clear hex Hn Hst
          go_wp2_with fail
          clear kk4

          have kk9 := blk6 St4.k
          have kn9 := blk2 St4.n
          have kj9 := blk2 St4.j
          have kr9 := blk5 St4.r
          have fr9 := St4.r.frozen
          have ks9 := blk2 St4.s
          have fs9 := St4.s.frozen
          have hj9 := St4.hj
          have hw9 := St4.hw
          have na9 : ¬ gj = w.heap.size + 1 := by omega
          have nb9 : ¬ w.heap.size + 1 = gj := by omega
          have nc9 : ¬ gj = w.heap.size + 1 + 1 := by omega
          have nd9 : ¬ w.heap.size + 1 + 1 = gj := by omega
          have ne9 : ¬ gw = w.heap.size + 1 := by omega
          have nf9 : ¬ w.heap.size + 1 = gw := by omega
          have ng9 : ¬ gw = w.heap.size + 1 + 1 := by omega
          have nh9 : ¬ w.heap.size + 1 + 1 = gw := by omega
          obtain ⟨Z9, hZ9, r9, s9, i9, b9⟩ := St4.fin (1) (0)
          go_region
          rw [← hZ9]
          have yr9 := blk5 r9
          have ys9 := blk2 s9
          clear kk9 kn9 kj9 kr9 fr9 ks9 fs9 hZ9 hj9 hw9 na9 nb9 nc9 nd9 ne9 nf9 ng9 nh9
          go_wp2_with fail
          refine bodyPost_ret (v := .tuple #[dval X p4 q4, .agg #[.int .u64 (1), .int .i64 (0)], .int .i64 ex]) (by simp [results, Tryz.results42, go_sem, yr9, ys9]) rfl ?_
          exact ⟨⟨p4, q4, by rw [Hw9.out]; try rfl, by rw [Hw9.out]; exact i9, by rw [Hw9.out]; exact St4.old⟩, b9⟩
      · obtain rfl : i = nb + 1 := by omega
        have Hsteps := hid (show jrSteps D (L.map Fd.it) = (E, 0) by
          have h := hE.out
          rw [Hall.out]
          rwa [← Hl1.out, List.take_length] at h)
        have St7 := hSt.out
        have Y7 := hY.out
        have HEf1 := hid hEf.out
        clear hE hSt hRow hY hEf St6 RowM y6
        go_upto_region 15 with fail
        have HM : Hid ((4611686018427387903 : Int) = ((4611686018427387903 : Nat) : Int)) := hid rfl
        generalize (4611686018427387903 : Int) = M9 at HM ⊢
        have hsize : txSize y.tx.plan.targets.length ≤ 27 := by unfold txSize; split <;> omega
        have D1 := fun e : Ext wr => tx_size (y.tx.plan.targets.length : Int) ⟨by omega, by omega⟩ e.world
        simp only [txSizeI_nat] at D1
        have X4 := fun e : Ext wr => (⟨e.cell (Y7.cell 0), e.cell (Y7.cell 1), e.cell (Y7.cell 2), e.cell (Y7.cell 3)⟩ : _ ∧ _ ∧ _ ∧ _)
        have wS := i64w (x := (y.pos : Int) + (txSize y.tx.plan.targets.length : Int)) ⟨by omega, by omega⟩
        refine wp_region_ext_tail 15 mixed (by kernel_rfl) (fun _ _ _ d _ h => by cases d <;> exact h) ?_
        simp only [List.take_succ_cons, List.take_zero, List.drop_succ_cons, List.drop_zero]
        repeat (go_big_quiet_step (((go_at_call 95; with_reducible exact ext_of (D1 _)))))
        refine wpQuiet_nil ?_
        rintro Z ⟨pq_, hpq_⟩
        have hZ := pq_.below
        rw [← hpq_] at hZ
        clear hpq_ pq_
        have St8 := St7.later hZ
        have kj8 := blk2 St8.j
        have fj8 := St8.j.frozen
        clear Y7 D1 X4
        go_upto_region 16 with fail
        obtain ⟨N, hN⟩ : ∃ N : Nat, min y.tx.seq 4611686018427387903 + 1 = N := ⟨_, rfl⟩
        obtain ⟨T, hT⟩ : ∃ T : Nat, y.pos + txSize y.tx.plan.targets.length = T := ⟨_, rfl⟩
        have eN : IntKind.u64.wrap (min (y.tx.seq : Int) M9 + 1) = (N : Int) := by
          have h1 : min (y.tx.seq : Int) M9 + 1 = (N : Int) := by rw [HM.out, ← hN]; omega
          rw [h1]
          exact u64w ⟨by omega, by omega⟩
        have eT : (y.pos : Int) + (txSize y.tx.plan.targets.length : Int) = (T : Int) := by rw [← hT]; omega
        have Hnext : Hid (jrNext (L.map Fd.it) = ⟨N, (T : Int)⟩) := hid (by
          unfold jrNext
          rw [Hlast.out]
          show (⟨min y.tx.seq 4611686018427387903 + 1, (y.pos : Int) + (txSize y.tx.plan.targets.length : Int)⟩ : Jr) = _
          rw [hN, eT])
        rw [eN, eT]
        have St9 := St8.setj N T
        clear kj8 fj8 eN eT HM St8 hT hN wS hsize
        generalize (Z.setCell ⟨gj, 0, none⟩ (.int .u64 (N : Int))).setCell ⟨gj, 1, none⟩ (.int .i64 (T : Int)) = W9 at St9 ⊢
        clear HEf0
        have HEf0 := HEf1
        obtain ⟨⟨F, ef⟩, hF⟩ : ∃ X, E.flush = X := ⟨_, rfl⟩
        have Hend := hid (jrReplay_end HS.out Hsteps.out hF)
        have hbF := (Below.refl W9.heap.size W9).alloc (Nat.le_refl _) (.cells #[.func (.func 78) #[] #[]] 140)
        have St3 := St9.later hbF
        have cF : Cells (W9.alloc (.cells #[.func (.func 78) #[] #[]] 140)) (some ⟨W9.heap.size, 0, none⟩) ([Stp.flush].map Stp.val) := cells_new W9 [.func (.func 78) #[] #[]] 140
        have hkl := St9.k.lt
        have hdo := j_do [Stp.flush] E p1 q1 gw (some ⟨W9.heap.size, 0, none⟩) 1 _ St3.k St3.is HEf0.out (St3.off _ (by have := St3.hw; omega) (.inl (Nat.le_refl _))) cF (fun b off e => by injection e with e; injection e with e; omega) (by decide) (fun s hs W' hg => by obtain rfl := List.mem_singleton.1 hs; trivial)
        rw [runAll_one] at hdo
        simp only [Stp.run, hF, List.length_cons, List.length_nil, Nat.zero_add] at hdo
        clear hF cF
        go_wp2_with fail
        go_at_call 77
        refine hdo.mono ?_
        rintro e W2 ⟨rfl, hgF, p4, q4, hk4, hi4, ho4, hold4⟩
        have St4 := St3.did hgF hk4 hi4 hold4
        have kk4 := blk6 St4.k
        clear hdo hgF hk4 hi4 ho4 hold4 St3 hbF
        by_cases hef : ef = 0
        · subst hef
          have Hw9 := hid (show jrReplay D = (F, ⟨N, T⟩, 0) by rw [Hend.out, if_neg (by simp), Hnext.out])
          go_wp2_with fail
          clear kk4
          have kk9 := blk6 St4.k
          have kn9 := blk2 St4.n
          have kj9 := blk2 St4.j
          have kr9 := blk5 St4.r
          have fr9 := St4.r.frozen
          have ks9 := blk2 St4.s
          have fs9 := St4.s.frozen
          have hj9 := St4.hj
          have hw9 := St4.hw
          have na9 : ¬ gj = w.heap.size + 1 := by omega
          have nb9 : ¬ w.heap.size + 1 = gj := by omega
          have nc9 : ¬ gj = w.heap.size + 1 + 1 := by omega
          have nd9 : ¬ w.heap.size + 1 + 1 = gj := by omega
          have ne9 : ¬ gw = w.heap.size + 1 := by omega
          have nf9 : ¬ w.heap.size + 1 = gw := by omega
          have ng9 : ¬ gw = w.heap.size + 1 + 1 := by omega
          have nh9 : ¬ w.heap.size + 1 + 1 = gw := by omega
          obtain ⟨Z9, hZ9, r9, s9, i9, b9⟩ := St4.fin (N) (T)
          go_region
          rw [← hZ9]
          have yr9 := blk5 r9
          have ys9 := blk2 s9
          clear kk9 kn9 kj9 kr9 fr9 ks9 fs9 hZ9 hj9 hw9 na9 nb9 nc9 nd9 ne9 nf9 ng9 nh9
          go_wp2_with fail
          refine bodyPost_ret (v := .tuple #[dval F p4 q4, .agg #[.int .u64 (N), .int .i64 (T)], .int .i64 0]) (by simp [results, Tryz.results42, go_sem, yr9, ys9]) rfl ?_
          exact ⟨⟨p4, q4, by rw [Hw9.out]; try rfl, by rw [Hw9.out]; exact i9, by rw [Hw9.out]; exact St4.old⟩, b9⟩
        · have nF : (ef != 0) = true := by simpa using hef
          have Hw9 := hid (show jrReplay D = (F, Jr.none, ef) by rw [Hend.out, if_pos hef])
          clear hef
          go_wp2_with fail
          clear kk4
          have kk9 := blk6 St4.k
          have kn9 := blk2 St4.n
          have kj9 := blk2 St4.j
          have kr9 := blk5 St4.r
          have fr9 := St4.r.frozen
          have ks9 := blk2 St4.s
          have fs9 := St4.s.frozen
          have hj9 := St4.hj
          have hw9 := St4.hw
          have na9 : ¬ gj = w.heap.size + 1 := by omega
          have nb9 : ¬ w.heap.size + 1 = gj := by omega
          have nc9 : ¬ gj = w.heap.size + 1 + 1 := by omega
          have nd9 : ¬ w.heap.size + 1 + 1 = gj := by omega
          have ne9 : ¬ gw = w.heap.size + 1 := by omega
          have nf9 : ¬ w.heap.size + 1 = gw := by omega
          have ng9 : ¬ gw = w.heap.size + 1 + 1 := by omega
          have nh9 : ¬ w.heap.size + 1 + 1 = gw := by omega
          obtain ⟨Z9, hZ9, r9, s9, i9, b9⟩ := St4.fin (1) (0)
          go_region
          rw [← hZ9]
          have yr9 := blk5 r9
          have ys9 := blk2 s9
          clear kk9 kn9 kj9 kr9 fr9 ks9 fs9 hZ9 hj9 hw9 na9 nb9 nc9 nd9 ne9 nf9 ng9 nh9
          go_wp2_with fail
          refine bodyPost_ret (v := .tuple #[dval F p4 q4, .agg #[.int .u64 (1), .int .i64 (0)], .int .i64 ef]) (by simp [results, Tryz.results42, go_sem, yr9, ys9]) rfl ?_
          exact ⟨⟨p4, q4, by rw [Hw9.out]; try rfl, by rw [Hw9.out]; exact i9, by rw [Hw9.out]; exact St4.old⟩, b9⟩
end Go.Proofs.YtplgmlcoeehnfaaGreat
