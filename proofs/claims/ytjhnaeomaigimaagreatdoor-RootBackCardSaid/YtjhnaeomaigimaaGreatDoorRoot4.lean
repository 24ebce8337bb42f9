/- Package root, ref10: plans with another root. -/
import Derived.Test.YtjhnaeomaigimaaGreatDoorRoot3
import Derived.Test.YtjhnaeomaigimaaGreatDoorPlan9
import Derived.Test.YtjhnaeomaigimaaGreatDoorGrown
set_option linter.unusedVariables false
namespace Go.Proofs.YtjhnaeomaigimaaGreatDoor
open Go.RowKit Go.Shelf
attribute [local go_sem] bs_mk bs_append bs_extract bs_size bs_toList bs_get
set_option maxRecDepth 100000 in
theorem r10_setR_in (L : Pn) (p q : Pl) (w : World) (hL : IsPn w L p q) (ht : L.targets.length ≤ 1000000) (he : L.targets.length = L.data.length) (l n : Nat) (hl : l < 256) (hn : n < 4294967296) :
    Calls Tryz.prog 12 #[pval L p q, rval l n] w fun e w' => RetPn w.heap.size L p q (L.set 1 (rtHead l n)) e w' ∧ Below w.heap.size w w' := by
  have hc := fun W => r10_cluster l W
  rw [decide_eq_true hl] at hc
  have hh := fun W => r10_head l n (by omega) hn W
  have hs := fun (W : World) (hb : Below w.heap.size w W) => r5_set L p q W (hL.below hb) 1 (by decide) (rtHead l n) (by rw [rtHead_length]; decide) ht he
  have hap := hL.apart (Nat.le_refl w.heap.size)
  have oP : ∀ B, w.heap.size ≤ B → PnOff B L p q := fun B hB => hL.apart hB
  generalize rtHead l n = T at *
  generalize L.set 1 T = R at *
  clear hL ht he hl hap
  obtain ⟨B1, b1⟩ := p
  obtain ⟨B2, b2⟩ := q
  have hB := Below.refl w.heap.size w
  have z := Blk.new w 28 #[.slice B1 L.targets.length b1, .slice B2 L.data.length b2]
  have zk := blk2 z
  have hB_1 := hB.alloc hB.size (.cells #[.slice B1 L.targets.length b1, .slice B2 L.data.length b2] 28)
  have y := Blk.new (w.alloc (.cells #[.slice B1 L.targets.length b1, .slice B2 L.data.length b2] 28)) 31 #[.int .i64 l, .int .u32 n]
  simp only [World.size_alloc] at y
  have yk := blk2 y
  have hB_2 := hB_1.alloc hB_1.size (.cells #[.int .i64 l, .int .u32 n] 31)
  have z_3 := z.alloc (.cells #[.int .i64 l, .int .u32 n] 31)
  have zk_3 := blk2 z_3
  have r := Blk.new ((w.alloc (.cells #[.slice B1 L.targets.length b1, .slice B2 L.data.length b2] 28)).alloc (.cells #[.int .i64 l, .int .u32 n] 31)) 28 #[.slice none 0 0, .slice none 0 0]
  simp only [World.size_alloc] at r
  have rk := blk2 r
  have rkf := r.frozen
  have hB_4 := hB_2.alloc hB_2.size (.cells #[.slice none 0 0, .slice none 0 0] 28)
  have z_5 := z_3.alloc (.cells #[.slice none 0 0, .slice none 0 0] 28)
  have zk_5 := blk2 z_5
  have y_6 := y.alloc (.cells #[.slice none 0 0, .slice none 0 0] 28)
  have yk_6 := blk2 y_6
  go_enter Tryz.func12, Tryz.ntmps12
  go_wp2_with fail
  generalize (((w.alloc (.cells #[.slice B1 L.targets.length b1, .slice B2 L.data.length b2] 28)).alloc (.cells #[.int .i64 l, .int .u32 n] 31)).alloc (.cells #[.slice none 0 0, .slice none 0 0] 28)) = V at hB_4 z_5 zk_5 y_6 yk_6 r rk rkf ⊢
  clear hB_1 hB_2 zk_3 z_3 hB z y zk yk
  have hB := hB_4
  have z := z_5
  have zk := zk_5
  have y := y_6
  have yk := yk_6
  clear hB_4 z_5 zk_5 y_6 yk_6
  go_at_call 46
  refine (hc _).mono ?_
  rintro e w5 ⟨rfl, rfl⟩
  have nz : w.heap.size ≠ w.heap.size + 1 + 1 := by omega
  have ny : w.heap.size + 1 ≠ w.heap.size + 1 + 1 := by omega
  have KZ := fun (W : World) (hW : w5.grownBy W (some (w.heap.size + 1 + 1))) => blk2 (z.grown hW nz)
  have KY := fun (W : World) (hW : w5.grownBy W (some (w.heap.size + 1 + 1))) => blk2 (y.grown hW ny)
  have hBs := hB.size
  go_wp2_with fail
  have s0 : w5.grownBy w5.drew (some (w.heap.size + 1 + 1)) := grown_of (Below.refl _ _).drew _
  have r0 := r.drew
  refine wp_region_late (S := fun W => w5.grownBy W (some (w.heap.size + 1 + 1))) (late := fun _ => false) (by kernel_rfl) ?_
  generalize w5.drew = U0 at s0 r0 ⊢
  simp only [List.size_toArray, List.length_cons, List.length_nil, Nat.reduceAdd, Array.replicate_succ, Array.replicate_zero, List.push_toArray, List.nil_append, List.cons_append]
  refine wpLate_take (i := 0) (oi := _) (v := pval L ⟨B1, b1⟩ ⟨B2, b2⟩) (d := some 11) rfl rfl (by kernel_rfl) (by kernel_rfl) (by kernel_rfl) (by kernel_rfl) (fun _ _ _ h => h) rfl (fun W hW => by have h9 := KZ W hW; go_simp) s0 ?_
  simp only [Act.put, List.setIfInBounds_toArray, List.set_cons_zero, List.set_cons_succ]
  refine wpLate_take (i := 1) (oi := _) (v := rval l n) (d := some 12) rfl rfl (by kernel_rfl) (by kernel_rfl) (by kernel_rfl) (by kernel_rfl) (fun _ _ _ h => h) rfl (fun W hW => by have h9 := KY W hW; go_simp) s0 ?_
  simp only [Act.put, List.setIfInBounds_toArray, List.set_cons_zero, List.set_cons_succ]
  refine wpLate_one (i := 2) (by kernel_rfl) rfl rfl (fun K' hK => ?_)
  refine oper_calls (f := 48) (args := #[rval l n]) (w' := U0) (by go_simp) ((hh U0).mono ?_)
  rintro e U1 ⟨rfl, hb1⟩
  refine ⟨_, rfl, ?_⟩
  show K' (Act.put _ (some 13) _) _
  have s1 := grown_then s0 hb1
  have r1 := r0.below hb1 r0.lt
  refine hK _ _ (fun _ _ => s1) ?_
  simp only [Act.put, List.setIfInBounds_toArray, List.set_cons_zero, List.set_cons_succ]
  refine wpLate_one (i := 3) (by kernel_rfl) rfl rfl (fun K' hK => ?_)
  refine oper_calls (f := 47) (args := #[pval L ⟨B1, b1⟩ ⟨B2, b2⟩, .int .i64 1, .string (bs T)]) (w' := U1) (by go_simp) ((hs U1 (hB.trans (grown_belowG s1 (by omega) hBs))).mono ?_)
  rintro e U2 ⟨⟨p6, q6, rfl, i6, o6⟩, hb2⟩
  refine ⟨_, rfl, ?_⟩
  show K' (Act.put _ (some 14) _) _
  have s2 := grown_then s1 hb2
  have or6 := o6 (w.heap.size + 1 + 1) r1.lt (oP _ (by omega))
  have r2 := r1.below hb2 r1.lt
  have hBU := hB.trans (grown_belowG s2 (by omega) hBs)
  have O6 : ∀ g, g < w.heap.size → PnOff g L ⟨B1, b1⟩ ⟨B2, b2⟩ → PnOff g R.1 p6 q6 := fun g h1 h2 => o6 g (by have := s1.size; omega) h2
  refine hK _ _ (fun _ _ => s2) ?_
  simp only [Act.put, List.setIfInBounds_toArray, List.set_cons_zero, List.set_cons_succ]
  refine wpLate_take0 (i := 4) (oi := _) (v := pval R.1 p6 q6) (d := some 15) rfl rfl (by kernel_rfl) (by kernel_rfl) (by kernel_rfl) (fun _ _ _ h => h) rfl (fun W => by first | rfl | go_simp) ?_
  simp only [Act.put, List.setIfInBounds_toArray, List.set_cons_zero, List.set_cons_succ]
  refine wpLate_take0 (i := 5) (oi := _) (v := .int .i64 R.2) (d := some 16) rfl rfl (by kernel_rfl) (by kernel_rfl) (by kernel_rfl) (fun _ _ _ h => h) rfl (fun W => by first | rfl | go_simp) ?_
  simp only [Act.put, List.setIfInBounds_toArray, List.set_cons_zero, List.set_cons_succ]
  refine wpLate_one (i := 6) (by kernel_rfl) rfl rfl (fun K' hK => ?_)
  refine oper_skip (w' := (U2.setCell ⟨w.heap.size + 1 + 1, 0, none⟩ (.slice p6.a R.1.targets.length p6.c)).setCell ⟨w.heap.size + 1 + 1, 1, none⟩ (.slice q6.a R.1.data.length q6.c)) (by have f1 := r2.frozen; have z1 := blk2 r2; have qq := r2.set 0 (.slice p6.a R.1.targets.length p6.c); have uf2 := qq.frozen; have u1 := blk2 qq; go_simp) ?_
  show K' (Act.put _ none _) _
  have s3 := grown_set (grown_set s2 0 (.slice p6.a R.1.targets.length p6.c)) 1 (.slice q6.a R.1.data.length q6.c)
  have yy := blk2 (blk_set2 r2 (.slice p6.a R.1.targets.length p6.c) (.slice q6.a R.1.data.length q6.c))
  have i8 := i6.off2 or6 (.slice p6.a R.1.targets.length p6.c) (.slice q6.a R.1.data.length q6.c)
  have b8 := below_set2 hBU (g := w.heap.size + 1 + 1) (by omega) (.slice p6.a R.1.targets.length p6.c) (.slice q6.a R.1.data.length q6.c)
  refine hK _ _ (fun _ _ => s3) ?_
  try simp only [Act.put, List.setIfInBounds_toArray, List.set_cons_zero, List.set_cons_succ]
  refine wpLate_take0 (i := 7) (oi := _) (v := .int .i64 R.2) (d := some 5) rfl rfl (by kernel_rfl) (by kernel_rfl) (by kernel_rfl) (fun _ _ _ h => h) rfl (fun W => by rfl) ?_
  simp only [Act.put, List.setIfInBounds_toArray, List.set_cons_zero, List.set_cons_succ]
  refine wpLate_done (by kernel_rfl) ?_ _
  go_wp2_with fail
  refine bodyPost_ret (v := .tuple #[pval R.1 p6 q6, .int .i64 R.2]) (by simp [results, Tryz.results12, go_sem, yy]) rfl ?_
  exact ⟨⟨p6, q6, rfl, i8, O6⟩, b8⟩
set_option maxRecDepth 100000 in
theorem r10_setR (L : Pn) (p q : Pl) (w : World) (hL : IsPn w L p q) (ht : L.targets.length ≤ 1000000) (he : L.targets.length = L.data.length) (l : Int) (n : Nat) (hn : n < 4294967296) :
    Calls Tryz.prog 12 #[pval L p q, .agg #[.int .i64 l, .int .u32 n]] w fun e w' => RetPn w.heap.size L p q (Pn.rtSet L l n) e w' ∧ Below w.heap.size w w' := by
  by_cases h : l < 0 ∨ 256 ≤ l
  · have hc := fun W => r10_clus l W
    rw [decide_eq_false (show ¬ (0 ≤ l ∧ l < 256) by omega)] at hc
    have Hr := hid (show Pn.rtSet L l n = (L, 10) by rw [Pn.rtSet, if_pos h])
    have hz := hL
    have hap := fun g (hg : w.heap.size ≤ g) => hL.apart hg
    clear hL h ht he hn
    obtain ⟨A1, a1⟩ := p
    obtain ⟨A2, a2⟩ := q
    have hB := Below.refl w.heap.size w
    have x := Blk.new w 28 #[.slice A1 L.targets.length a1, .slice A2 L.data.length a2]
    have xk := blk2 x
    have hB_1 := hB.alloc hB.size (.cells #[.slice A1 L.targets.length a1, .slice A2 L.data.length a2] 28)
    have y := Blk.new (w.alloc (.cells #[.slice A1 L.targets.length a1, .slice A2 L.data.length a2] 28)) 31 #[.int .i64 l, .int .u32 n]
    simp only [World.size_alloc] at y
    have yk := blk2 y
    have hB_2 := hB_1.alloc hB_1.size (.cells #[.int .i64 l, .int .u32 n] 31)
    have x_3 := x.alloc (.cells #[.int .i64 l, .int .u32 n] 31)
    have xk_3 := blk2 x_3
    have r := Blk.new ((w.alloc (.cells #[.slice A1 L.targets.length a1, .slice A2 L.data.length a2] 28)).alloc (.cells #[.int .i64 l, .int .u32 n] 31)) 28 #[.slice none 0 0, .slice none 0 0]
    simp only [World.size_alloc] at r
    have rk := blk2 r
    have rkf := r.frozen
    have hB_4 := hB_2.alloc hB_2.size (.cells #[.slice none 0 0, .slice none 0 0] 28)
    have x_5 := x_3.alloc (.cells #[.slice none 0 0, .slice none 0 0] 28)
    have xk_5 := blk2 x_5
    have y_6 := y.alloc (.cells #[.slice none 0 0, .slice none 0 0] 28)
    have yk_6 := blk2 y_6
    go_enter Tryz.func12, Tryz.ntmps12
    go_wp2_with fail
    go_at_call 46
    refine ((hc _)).mono ?_
    rintro e w1 ⟨rfl, hb1⟩
    replace hB := bt hB_4 hb1
    replace x := x_5.below hb1 x_5.lt
    replace xk := blk2 x
    replace y := y_6.below hb1 y_6.lt
    replace yk := blk2 y
    replace r := r.below hb1 r.lt
    replace rk := blk2 r
    replace rkf := r.frozen
    clear hB_1 hB_2 xk_3 x_3 hB_4 xk_5 x_5 yk_6 y_6
    have rl : w.heap.size + 1 + 1 < w1.heap.size := r.lt
    go_wp2_with fail
    have i0 := hz.below hB
    have yy := blk2 (blk_set2 r (.slice A1 L.targets.length a1) (.slice A2 L.data.length a2))
    have i2 := i0.off2 (g := w.heap.size + 1 + 1) (hap _ (by omega)) (.slice A1 L.targets.length a1) (.slice A2 L.data.length a2)
    have b8 := below_set2 hB (g := w.heap.size + 1 + 1) (by omega) (.slice A1 L.targets.length a1) (.slice A2 L.data.length a2)
    refine bodyPost_ret (v := .tuple #[pval L ⟨A1, a1⟩ ⟨A2, a2⟩, .int .i64 10]) (by simp [results, Tryz.results12, go_sem, yy]) rfl ?_
    rw [Hr.out]
    exact ⟨⟨⟨A1, a1⟩, ⟨A2, a2⟩, rfl, i2, fun g _ h => h⟩, b8⟩
  · obtain ⟨l, rfl⟩ := Int.eq_ofNat_of_zero_le (show 0 ≤ l by omega)
    refine (r10_setR_in L p q w hL ht he l n (by omega) hn).mono ?_
    rintro e w' ⟨h1, h2⟩
    rw [show Pn.rtSet L l n = L.set 1 (rtHead l n) by rw [Pn.rtSet, if_neg h, Int.toNat_natCast]]
    exact ⟨h1, h2⟩
set_option maxRecDepth 100000 in
theorem rt_set_in (L : Pn) (p q : Pl) (w : World) (hL : IsPn w L p q) (ht : L.targets.length ≤ 1000000) (he : L.targets.length = L.data.length) (l n : Nat) (hl : l < 256) (hn : n < 4294967296) :
    Calls Tryz.prog 11 #[pval L p q, rval l n] w fun e w' => RetPn w.heap.size L p q (L.set 1 (rtHead l n)) e w' ∧ Below w.heap.size w w' := by
  have hc := fun W => rt_outside l W
  rw [decide_eq_false (show ¬ 256 ≤ l by omega)] at hc
  have hh := fun W => rt_sector l n (by omega) hn W
  have hs := fun (W : World) (hb : Below w.heap.size w W) => pl_set L p q W (hL.below hb) 1 (by decide) (rtHead l n) (by rw [rtHead_length]; decide) ht he
  have hap := hL.apart (Nat.le_refl w.heap.size)
  have oP : ∀ B, w.heap.size ≤ B → PnOff B L p q := fun B hB => hL.apart hB
  generalize rtHead l n = T at *
  generalize L.set 1 T = R at *
  clear hL ht he hl hap
  obtain ⟨B1, b1⟩ := p
  obtain ⟨B2, b2⟩ := q
  have hB := Below.refl w.heap.size w
  have z := Blk.new w 28 #[.slice B1 L.targets.length b1, .slice B2 L.data.length b2]
  have zk := blk2 z
  have hB_1 := hB.alloc hB.size (.cells #[.slice B1 L.targets.length b1, .slice B2 L.data.length b2] 28)
  have y := Blk.new (w.alloc (.cells #[.slice B1 L.targets.length b1, .slice B2 L.data.length b2] 28)) 31 #[.int .i64 l, .int .u32 n]
  simp only [World.size_alloc] at y
  have yk := blk2 y
  have hB_2 := hB_1.alloc hB_1.size (.cells #[.int .i64 l, .int .u32 n] 31)
  have z_3 := z.alloc (.cells #[.int .i64 l, .int .u32 n] 31)
  have zk_3 := blk2 z_3
  have r := Blk.new ((w.alloc (.cells #[.slice B1 L.targets.length b1, .slice B2 L.data.length b2] 28)).alloc (.cells #[.int .i64 l, .int .u32 n] 31)) 28 #[.slice none 0 0, .slice none 0 0]
  simp only [World.size_alloc] at r
  have rk := blk2 r
  have rkf := r.frozen
  have hB_4 := hB_2.alloc hB_2.size (.cells #[.slice none 0 0, .slice none 0 0] 28)
  have z_5 := z_3.alloc (.cells #[.slice none 0 0, .slice none 0 0] 28)
  have zk_5 := blk2 z_5
  have y_6 := y.alloc (.cells #[.slice none 0 0, .slice none 0 0] 28)
  have yk_6 := blk2 y_6
  go_enter Tryz.func11, Tryz.ntmps11
  go_wp2_with fail
  generalize (((w.alloc (.cells #[.slice B1 L.targets.length b1, .slice B2 L.data.length b2] 28)).alloc (.cells #[.int .i64 l, .int .u32 n] 31)).alloc (.cells #[.slice none 0 0, .slice none 0 0] 28)) = V at hB_4 z_5 zk_5 y_6 yk_6 r rk rkf ⊢
  clear hB_1 hB_2 zk_3 z_3 hB z y zk yk
  have hB := hB_4
  have z := z_5
  have zk := zk_5
  have y := y_6
  have yk := yk_6
  clear hB_4 z_5 zk_5 y_6 yk_6
  go_at_call 43
  refine (hc _).mono ?_
  rintro e w5 ⟨rfl, rfl⟩
  have nz : w.heap.size ≠ w.heap.size + 1 + 1 := by omega
  have ny : w.heap.size + 1 ≠ w.heap.size + 1 + 1 := by omega
  have KZ := fun (W : World) (hW : w5.grownBy W (some (w.heap.size + 1 + 1))) => blk2 (z.grown hW nz)
  have KY := fun (W : World) (hW : w5.grownBy W (some (w.heap.size + 1 + 1))) => blk2 (y.grown hW ny)
  have hBs := hB.size
  go_wp2_with fail
  have s0 : w5.grownBy w5.drew (some (w.heap.size + 1 + 1)) := grown_of (Below.refl _ _).drew _
  have r0 := r.drew
  refine wp_region_late (S := fun W => w5.grownBy W (some (w.heap.size + 1 + 1))) (late := fun _ => false) (by kernel_rfl) ?_
  generalize w5.drew = U0 at s0 r0 ⊢
  simp only [List.size_toArray, List.length_cons, List.length_nil, Nat.reduceAdd, Array.replicate_succ, Array.replicate_zero, List.push_toArray, List.nil_append, List.cons_append]
  refine wpLate_take (i := 0) (oi := _) (v := pval L ⟨B1, b1⟩ ⟨B2, b2⟩) (d := some 10) rfl rfl (by kernel_rfl) (by kernel_rfl) (by kernel_rfl) (by kernel_rfl) (fun _ _ _ h => h) rfl (fun W hW => by have h9 := KZ W hW; go_simp) s0 ?_
  simp only [Act.put, List.setIfInBounds_toArray, List.set_cons_zero, List.set_cons_succ]
  refine wpLate_take (i := 1) (oi := _) (v := rval l n) (d := some 11) rfl rfl (by kernel_rfl) (by kernel_rfl) (by kernel_rfl) (by kernel_rfl) (fun _ _ _ h => h) rfl (fun W hW => by have h9 := KY W hW; go_simp) s0 ?_
  simp only [Act.put, List.setIfInBounds_toArray, List.set_cons_zero, List.set_cons_succ]
  refine wpLate_one (i := 2) (by kernel_rfl) rfl rfl (fun K' hK => ?_)
  refine oper_calls (f := 45) (args := #[rval l n]) (w' := U0) (by go_simp) ((hh U0).mono ?_)
  rintro e U1 ⟨rfl, hb1⟩
  refine ⟨_, rfl, ?_⟩
  show K' (Act.put _ (some 12) _) _
  have s1 := grown_then s0 hb1
  have r1 := r0.below hb1 r0.lt
  refine hK _ _ (fun _ _ => s1) ?_
  simp only [Act.put, List.setIfInBounds_toArray, List.set_cons_zero, List.set_cons_succ]
  refine wpLate_one (i := 3) (by kernel_rfl) rfl rfl (fun K' hK => ?_)
  refine oper_calls (f := 44) (args := #[pval L ⟨B1, b1⟩ ⟨B2, b2⟩, .int .i64 1, .string (bs T)]) (w' := U1) (by go_simp) ((hs U1 (hB.trans (grown_belowG s1 (by omega) hBs))).mono ?_)
  rintro e U2 ⟨⟨p6, q6, rfl, i6, o6⟩, hb2⟩
  refine ⟨_, rfl, ?_⟩
  show K' (Act.put _ (some 13) _) _
  have s2 := grown_then s1 hb2
  have or6 := o6 (w.heap.size + 1 + 1) r1.lt (oP _ (by omega))
  have r2 := r1.below hb2 r1.lt
  have hBU := hB.trans (grown_belowG s2 (by omega) hBs)
  have O6 : ∀ g, g < w.heap.size → PnOff g L ⟨B1, b1⟩ ⟨B2, b2⟩ → PnOff g R.1 p6 q6 := fun g h1 h2 => o6 g (by have := s1.size; omega) h2
  refine hK _ _ (fun _ _ => s2) ?_
  simp only [Act.put, List.setIfInBounds_toArray, List.set_cons_zero, List.set_cons_succ]
  refine wpLate_take0 (i := 4) (oi := _) (v := pval R.1 p6 q6) (d := some 14) rfl rfl (by kernel_rfl) (by kernel_rfl) (by kernel_rfl) (fun _ _ _ h => h) rfl (fun W => by first | rfl | go_simp) ?_
  simp only [Act.put, List.setIfInBounds_toArray, List.set_cons_zero, List.set_cons_succ]
  refine wpLate_take0 (i := 5) (oi := _) (v := .int .i64 R.2) (d := some 15) rfl rfl (by kernel_rfl) (by kernel_rfl) (by kernel_rfl) (fun _ _ _ h => h) rfl (fun W => by first | rfl | go_simp) ?_
  simp only [Act.put, List.setIfInBounds_toArray, List.set_cons_zero, List.set_cons_succ]
  refine wpLate_one (i := 6) (by kernel_rfl) rfl rfl (fun K' hK => ?_)
  refine oper_skip (w' := (U2.setCell ⟨w.heap.size + 1 + 1, 0, none⟩ (.slice p6.a R.1.targets.length p6.c)).setCell ⟨w.heap.size + 1 + 1, 1, none⟩ (.slice q6.a R.1.data.length q6.c)) (by have f1 := r2.frozen; have z1 := blk2 r2; have qq := r2.set 0 (.slice p6.a R.1.targets.length p6.c); have uf2 := qq.frozen; have u1 := blk2 qq; go_simp) ?_
  show K' (Act.put _ none _) _
  have s3 := grown_set (grown_set s2 0 (.slice p6.a R.1.targets.length p6.c)) 1 (.slice q6.a R.1.data.length q6.c)
  have yy := blk2 (blk_set2 r2 (.slice p6.a R.1.targets.length p6.c) (.slice q6.a R.1.data.length q6.c))
  have i8 := i6.off2 or6 (.slice p6.a R.1.targets.length p6.c) (.slice q6.a R.1.data.length q6.c)
  have b8 := below_set2 hBU (g := w.heap.size + 1 + 1) (by omega) (.slice p6.a R.1.targets.length p6.c) (.slice q6.a R.1.data.length q6.c)
  refine hK _ _ (fun _ _ => s3) ?_
  try simp only [Act.put, List.setIfInBounds_toArray, List.set_cons_zero, List.set_cons_succ]
  refine wpLate_take0 (i := 7) (oi := _) (v := .int .i64 R.2) (d := some 5) rfl rfl (by kernel_rfl) (by kernel_rfl) (by kernel_rfl) (fun _ _ _ h => h) rfl (fun W => by rfl) ?_
  simp only [Act.put, List.setIfInBounds_toArray, List.set_cons_zero, List.set_cons_succ]
  refine wpLate_done (by kernel_rfl) ?_ _
  go_wp2_with fail
  refine bodyPost_ret (v := .tuple #[pval R.1 p6 q6, .int .i64 R.2]) (by simp [results, Tryz.results11, go_sem, yy]) rfl ?_
  exact ⟨⟨p6, q6, rfl, i8, O6⟩, b8⟩
set_option maxRecDepth 100000 in
theorem rt_set (L : Pn) (p q : Pl) (w : World) (hL : IsPn w L p q) (ht : L.targets.length ≤ 1000000) (he : L.targets.length = L.data.length) (l : Int) (n : Nat) (hn : n < 4294967296) :
    Calls Tryz.prog 11 #[pval L p q, .agg #[.int .i64 l, .int .u32 n]] w fun e w' => RetPn w.heap.size L p q (Pn.rtSet L l n) e w' ∧ Below w.heap.size w w' := by
  by_cases h : l < 0 ∨ 256 ≤ l
  · have hc := fun W => rt_outB l W
    rw [decide_eq_true h] at hc
    have Hr := hid (show Pn.rtSet L l n = (L, 10) by rw [Pn.rtSet, if_pos h])
    have hz := hL
    have hap := fun g (hg : w.heap.size ≤ g) => hL.apart hg
    clear hL h ht he hn
    obtain ⟨A1, a1⟩ := p
    obtain ⟨A2, a2⟩ := q
    have hB := Below.refl w.heap.size w
    have x := Blk.new w 28 #[.slice A1 L.targets.length a1, .slice A2 L.data.length a2]
    have xk := blk2 x
    have hB_1 := hB.alloc hB.size (.cells #[.slice A1 L.targets.length a1, .slice A2 L.data.length a2] 28)
    have y := Blk.new (w.alloc (.cells #[.slice A1 L.targets.length a1, .slice A2 L.data.length a2] 28)) 31 #[.int .i64 l, .int .u32 n]
    simp only [World.size_alloc] at y
    have yk := blk2 y
    have hB_2 := hB_1.alloc hB_1.size (.cells #[.int .i64 l, .int .u32 n] 31)
    have x_3 := x.alloc (.cells #[.int .i64 l, .int .u32 n] 31)
    have xk_3 := blk2 x_3
    have r := Blk.new ((w.alloc (.cells #[.slice A1 L.targets.length a1, .slice A2 L.data.length a2] 28)).alloc (.cells #[.int .i64 l, .int .u32 n] 31)) 28 #[.slice none 0 0, .slice none 0 0]
    simp only [World.size_alloc] at r
    have rk := blk2 r
    have rkf := r.frozen
    have hB_4 := hB_2.alloc hB_2.size (.cells #[.slice none 0 0, .slice none 0 0] 28)
    have x_5 := x_3.alloc (.cells #[.slice none 0 0, .slice none 0 0] 28)
    have xk_5 := blk2 x_5
    have y_6 := y.alloc (.cells #[.slice none 0 0, .slice none 0 0] 28)
    have yk_6 := blk2 y_6
    go_enter Tryz.func11, Tryz.ntmps11
    go_wp2_with fail
    go_at_call 43
    refine ((hc _)).mono ?_
    rintro e w1 ⟨rfl, hb1⟩
    replace hB := bt hB_4 hb1
    replace x := x_5.below hb1 x_5.lt
    replace xk := blk2 x
    replace y := y_6.below hb1 y_6.lt
    replace yk := blk2 y
    replace r := r.below hb1 r.lt
    replace rk := blk2 r
    replace rkf := r.frozen
    clear hB_1 hB_2 xk_3 x_3 hB_4 xk_5 x_5 yk_6 y_6
    have rl : w.heap.size + 1 + 1 < w1.heap.size := r.lt
    go_wp2_with fail
    have i0 := hz.below hB
    have yy := blk2 (blk_set2 r (.slice A1 L.targets.length a1) (.slice A2 L.data.length a2))
    have i2 := i0.off2 (g := w.heap.size + 1 + 1) (hap _ (by omega)) (.slice A1 L.targets.length a1) (.slice A2 L.data.length a2)
    have b8 := below_set2 hB (g := w.heap.size + 1 + 1) (by omega) (.slice A1 L.targets.length a1) (.slice A2 L.data.length a2)
    refine bodyPost_ret (v := .tuple #[pval L ⟨A1, a1⟩ ⟨A2, a2⟩, .int .i64 10]) (by simp [results, Tryz.results11, go_sem, yy]) rfl ?_
    rw [Hr.out]
    exact ⟨⟨⟨A1, a1⟩, ⟨A2, a2⟩, rfl, i2, fun g _ h => h⟩, b8⟩
  · obtain ⟨l, rfl⟩ := Int.eq_ofNat_of_zero_le (show 0 ≤ l by omega)
    refine (rt_set_in L p q w hL ht he l n (by omega) hn).mono ?_
    rintro e w' ⟨h1, h2⟩
    rw [show Pn.rtSet L l n = L.set 1 (rtHead l n) by rw [Pn.rtSet, if_neg h, Int.toNat_natCast]]
    exact ⟨h1, h2⟩
end Go.Proofs.YtjhnaeomaigimaaGreatDoor
