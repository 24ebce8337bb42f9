/- Package cofferdamlaw12: rows of numbers, and the example's device. -/
import Derived.Test.YtplgmlcoeehnfaaGreatPuPointsD
import Derived.Test.YtplgmlcoeehnfaaGreatPuGood3
import Derived.Test.YtplgmlcoeehnfaaGreatPuLay6
import Derived.Test.YtplgmlcoeehnfaaGreatPuDev7
import Derived.Test.YtplgmlcoeehnfaaGreatPuTable5
set_option linter.unusedVariables false
namespace Go.Proofs.YtplgmlcoeehnfaaGreat
open Go.RowKit Go.Shelf
attribute [local go_sem] bs_mk bs_append bs_extract bs_size bs_toList bs_get
set_option maxRecDepth 100000 in
theorem ints12 (l : List Int) (A B : Option Addr) (c d : Nat) (w : World) (hA : Cells w A (intCells l)) (hB : Cells w B (intCells l)) (hl : l.length ≤ 1000000) :
    Calls Tryz.prog 29 #[.slice A l.length c, .slice B l.length d] w fun e w' => e = .returned (.bool true) ∧ Below w.heap.size w w' := by
  cases l with
  | nil =>
    go_enter Tryz.func29, Tryz.ntmps29
    go_wp2_with fail
    go_loopw [13] (fun x W => x = .int .i64 0 ∧ Below w.heap.size w W) (fun x _ => 0)
    case atStart => exact ⟨rfl, Below.refl _ _⟩
    case round =>
      obtain ⟨rfl, hb⟩ := hrel
      go_wp2_with fail
      go_ret
      exact ⟨rfl, hb⟩
  | cons v l =>
  obtain ⟨pa, oa, rfl, ha⟩ := hA.int (i := 0) (by simp)
  obtain ⟨pb, ob, rfl, hb⟩ := hB.int (i := 0) (by simp)
  generalize hm : v :: l = m at *
  have HA := hid (fun (W : World) (hb : Below w.heap.size w W) (j : Nat) (hj : j < m.length) => cell_below hb (ha j hj))
  have HB := hid (fun (W : World) (hbl : Below w.heap.size w W) (j : Nat) (hj : j < m.length) => cell_below hbl (hb j hj))
  clear hA hB ha hb hm
  go_enter Tryz.func29, Tryz.ntmps29
  go_wp2_with fail
  go_loopw [13] (fun x W => ∃ i : Nat, i ≤ m.length ∧ x = .int .i64 i ∧ Below w.heap.size w W) (fun x _ => m.length - (intOf x).toNat)
  case atStart => exact ⟨0, Nat.zero_le _, rfl, Below.refl _ _⟩
  case round =>
    obtain ⟨i, hi, rfl, hb⟩ := hrel
    by_cases hlt : i < m.length
    · have k0 := HA.out _ hb i hlt
      have k1 := HB.out _ hb i hlt
      go_wp2_with fail
      go_quiet (fail)
      go_wp2_with fail
      go_roundw
      case rel => exact ⟨i + 1, by omega, by go_num, below_drewN hb _⟩
      case measure => simp [intOf]; omega
    · obtain rfl : i = m.length := by omega
      go_wp2_with fail
      go_ret
      exact ⟨rfl, hb⟩
set_option maxRecDepth 100000 in
theorem r10_set (L : Pn) (p q : Pl) (w : World) (hL : IsPn w L p q) (ht : L.targets.length ≤ 1000000) (he : L.targets.length = L.data.length) (l n : Nat) (hl : l < 256) (hn : n < 4294967296) :
    Calls Tryz.prog 101 #[pval L p q, rval l n] w fun e w' => RetPn w.heap.size L p q (L.set 1 (rtHead l n)) e w' ∧ Below w.heap.size w w' := by
  have hc := fun W => r10_cluster l W
  rw [decide_eq_true hl] at hc
  have hh := fun W => r10_head l n (by omega) hn W
  have hs := fun (W : World) (hb : Below w.heap.size w W) => r5_set L p q W (hL.below hb) 1 (by decide) (rtHead l n) (by rw [rtHead_length]; decide) ht he
  have hap := hL.apart (Nat.le_refl w.heap.size)
  have oP : ∀ B, w.heap.size ≤ B → PnOff B L p q := fun B hB => hL.apart hB
  generalize rtHead l n = T at *
  generalize L.set 1 T = R at *
  clear hL ht he hl hap
  obtain ⟨B1, b1⟩ := p
  obtain ⟨B2, b2⟩ := q
  have hB := Below.refl w.heap.size w
  have z := Blk.new w 28 #[.slice B1 L.targets.length b1, .slice B2 L.data.length b2]
  have zk := blk2 z
  have hB_1 := hB.alloc hB.size (.cells #[.slice B1 L.targets.length b1, .slice B2 L.data.length b2] 28)
  have y := Blk.new (w.alloc (.cells #[.slice B1 L.targets.length b1, .slice B2 L.data.length b2] 28)) 37 #[.int .i64 l, .int .u32 n]
  simp only [World.size_alloc] at y
  have yk := blk2 y
  have hB_2 := hB_1.alloc hB_1.size (.cells #[.int .i64 l, .int .u32 n] 37)
  have z_3 := z.alloc (.cells #[.int .i64 l, .int .u32 n] 37)
  have zk_3 := blk2 z_3
  have r := Blk.new ((w.alloc (.cells #[.slice B1 L.targets.length b1, .slice B2 L.data.length b2] 28)).alloc (.cells #[.int .i64 l, .int .u32 n] 37)) 28 #[.slice none 0 0, .slice none 0 0]
  simp only [World.size_alloc] at r
  have rk := blk2 r
  have rkf := r.frozen
  have hB_4 := hB_2.alloc hB_2.size (.cells #[.slice none 0 0, .slice none 0 0] 28)
  have z_5 := z_3.alloc (.cells #[.slice none 0 0, .slice none 0 0] 28)
  have zk_5 := blk2 z_5
  have y_6 := y.alloc (.cells #[.slice none 0 0, .slice none 0 0] 28)
  have yk_6 := blk2 y_6
  go_enter Tryz.func101, Tryz.ntmps101
  go_wp2_with fail
  generalize (((w.alloc (.cells #[.slice B1 L.targets.length b1, .slice B2 L.data.length b2] 28)).alloc (.cells #[.int .i64 l, .int .u32 n] 37)).alloc (.cells #[.slice none 0 0, .slice none 0 0] 28)) = V at hB_4 z_5 zk_5 y_6 yk_6 r rk rkf ⊢
  clear hB_1 hB_2 zk_3 z_3 hB z y zk yk
  have hB := hB_4
  have z := z_5
  have zk := zk_5
  have y := y_6
  have yk := yk_6
  clear hB_4 z_5 zk_5 y_6 yk_6
  go_at_call 62
  refine (hc _).mono ?_
  rintro e w5 ⟨rfl, rfl⟩
  have nz : w.heap.size ≠ w.heap.size + 1 + 1 := by omega
  have ny : w.heap.size + 1 ≠ w.heap.size + 1 + 1 := by omega
  have KZ := fun (W : World) (hW : w5.grownBy W (some (w.heap.size + 1 + 1))) => blk2 (z.grown hW nz)
  have KY := fun (W : World) (hW : w5.grownBy W (some (w.heap.size + 1 + 1))) => blk2 (y.grown hW ny)
  have hBs := hB.size
  go_wp2_with fail
  have s0 : w5.grownBy w5.drew (some (w.heap.size + 1 + 1)) := grown_of (Below.refl _ _).drew _
  have r0 := r.drew
  refine wp_region_late (S := fun W => w5.grownBy W (some (w.heap.size + 1 + 1))) (late := fun _ => false) (by kernel_rfl) ?_
  generalize w5.drew = U0 at s0 r0 ⊢
  simp only [List.size_toArray, List.length_cons, List.length_nil, Nat.reduceAdd, Array.replicate_succ, Array.replicate_zero, List.push_toArray, List.nil_append, List.cons_append]
  refine wpLate_take (i := 0) (oi := _) (v := pval L ⟨B1, b1⟩ ⟨B2, b2⟩) (d := some 11) rfl rfl (by kernel_rfl) (by kernel_rfl) (by kernel_rfl) (by kernel_rfl) (fun _ _ _ h => h) rfl (fun W hW => by have h9 := KZ W hW; go_simp) s0 ?_
  simp only [Act.put, List.setIfInBounds_toArray, List.set_cons_zero, List.set_cons_succ]
  refine wpLate_take (i := 1) (oi := _) (v := rval l n) (d := some 12) rfl rfl (by kernel_rfl) (by kernel_rfl) (by kernel_rfl) (by kernel_rfl) (fun _ _ _ h => h) rfl (fun W hW => by have h9 := KY W hW; go_simp) s0 ?_
  simp only [Act.put, List.setIfInBounds_toArray, List.set_cons_zero, List.set_cons_succ]
  refine wpLate_one (i := 2) (by kernel_rfl) rfl rfl (fun K' hK => ?_)
  refine oper_calls (f := 63) (args := #[rval l n]) (w' := U0) (by go_simp) ((hh U0).mono ?_)
  rintro e U1 ⟨rfl, hb1⟩
  refine ⟨_, rfl, ?_⟩
  show K' (Act.put _ (some 13) _) _
  have s1 := grown_then s0 hb1
  have r1 := r0.below hb1 r0.lt
  refine hK _ _ (fun _ _ => s1) ?_
  simp only [Act.put, List.setIfInBounds_toArray, List.set_cons_zero, List.set_cons_succ]
  refine wpLate_one (i := 3) (by kernel_rfl) rfl rfl (fun K' hK => ?_)
  refine oper_calls (f := 156) (args := #[pval L ⟨B1, b1⟩ ⟨B2, b2⟩, .int .i64 1, .string (bs T)]) (w' := U1) (by go_simp) ((hs U1 (hB.trans (grown_belowG s1 (by omega) hBs))).mono ?_)
  rintro e U2 ⟨⟨p6, q6, rfl, i6, o6⟩, hb2⟩
  refine ⟨_, rfl, ?_⟩
  show K' (Act.put _ (some 14) _) _
  have s2 := grown_then s1 hb2
  have or6 := o6 (w.heap.size + 1 + 1) r1.lt (oP _ (by omega))
  have r2 := r1.below hb2 r1.lt
  have hBU := hB.trans (grown_belowG s2 (by omega) hBs)
  have O6 : ∀ g, g < w.heap.size → PnOff g L ⟨B1, b1⟩ ⟨B2, b2⟩ → PnOff g R.1 p6 q6 := fun g h1 h2 => o6 g (by have := s1.size; omega) h2
  refine hK _ _ (fun _ _ => s2) ?_
  simp only [Act.put, List.setIfInBounds_toArray, List.set_cons_zero, List.set_cons_succ]
  refine wpLate_take0 (i := 4) (oi := _) (v := pval R.1 p6 q6) (d := some 15) rfl rfl (by kernel_rfl) (by kernel_rfl) (by kernel_rfl) (fun _ _ _ h => h) rfl (fun W => by first | rfl | go_simp) ?_
  simp only [Act.put, List.setIfInBounds_toArray, List.set_cons_zero, List.set_cons_succ]
  refine wpLate_take0 (i := 5) (oi := _) (v := .int .i64 R.2) (d := some 16) rfl rfl (by kernel_rfl) (by kernel_rfl) (by kernel_rfl) (fun _ _ _ h => h) rfl (fun W => by first | rfl | go_simp) ?_
  simp only [Act.put, List.setIfInBounds_toArray, List.set_cons_zero, List.set_cons_succ]
  refine wpLate_one (i := 6) (by kernel_rfl) rfl rfl (fun K' hK => ?_)
  refine oper_skip (w' := (U2.setCell ⟨w.heap.size + 1 + 1, 0, none⟩ (.slice p6.a R.1.targets.length p6.c)).setCell ⟨w.heap.size + 1 + 1, 1, none⟩ (.slice q6.a R.1.data.length q6.c)) (by have f1 := r2.frozen; have z1 := blk2 r2; have qq := r2.set 0 (.slice p6.a R.1.targets.length p6.c); have uf2 := qq.frozen; have u1 := blk2 qq; go_simp) ?_
  show K' (Act.put _ none _) _
  have s3 := grown_set (grown_set s2 0 (.slice p6.a R.1.targets.length p6.c)) 1 (.slice q6.a R.1.data.length q6.c)
  have yy := blk2 (blk_set2 r2 (.slice p6.a R.1.targets.length p6.c) (.slice q6.a R.1.data.length q6.c))
  have i8 := i6.off2 or6 (.slice p6.a R.1.targets.length p6.c) (.slice q6.a R.1.data.length q6.c)
  have b8 := below_set2 hBU (g := w.heap.size + 1 + 1) (by omega) (.slice p6.a R.1.targets.length p6.c) (.slice q6.a R.1.data.length q6.c)
  refine hK _ _ (fun _ _ => s3) ?_
  try simp only [Act.put, List.setIfInBounds_toArray, List.set_cons_zero, List.set_cons_succ]
  refine wpLate_take0 (i := 7) (oi := _) (v := .int .i64 R.2) (d := some 5) rfl rfl (by kernel_rfl) (by kernel_rfl) (by kernel_rfl) (fun _ _ _ h => h) rfl (fun W => by rfl) ?_
  simp only [Act.put, List.setIfInBounds_toArray, List.set_cons_zero, List.set_cons_succ]
  refine wpLate_done (by kernel_rfl) ?_ _
  go_wp2_with fail
  refine bodyPost_ret (v := .tuple #[pval R.1 p6 q6, .int .i64 R.2]) (by simp [results, Tryz.results101, go_sem, yy]) rfl ?_
  exact ⟨⟨p6, q6, rfl, i8, O6⟩, b8⟩
/-! ### The example's device -/
def imgQ : Pn := (Pn.set Pn.none 1 (rtHead 0 1)).1
def imgD0 : Dk := Dk.blank 112
def imgP : Pn := (Pn.cntAdd imgD0 imgQ 0 1).1
def imgD : Dk := (Pn.lay imgD0 imgP).1
def img2 : Pn := (Pn.ptPoint imgD Pn.none 30 8 20 2 0).1
set_option maxRecDepth 100000 in
theorem ev_img : imgD0.fit = true ∧ (Pn.set Pn.none 1 (rtHead 0 1)).2 = 0 ∧ (Pn.cntAdd imgD0 imgQ 0 1).2 = 0 ∧ (Pn.lay imgD0 imgP).2 = 0 ∧ imgD.fit = true := by decide +kernel
set_option maxRecDepth 100000 in
theorem ev_img2 : (Pn.ptPoint imgD Pn.none 30 8 20 2 0).2 = 0 ∧ Pn.ptReach imgD img2 0 = ([1], 0) ∧ (Pn.tabFind imgD img2 0 20).1.1 = 2 ∧ (Pn.tabFind imgD img2 0 21).1.1 = 0 ∧ (Pn.cntGet imgD img2 1).1 = 1 := by decide +kernel
theorem imgQ_fit : imgQ.Fit := Pn.set_fit Pn.none_fit 1 _
theorem imgP_fit : imgP.Fit := Pn.cntAdd_fit ev_img.1 imgQ_fit 0 1
theorem img2_fit : img2.Fit := Pn.ptPoint_fit ev_img.2.2.2.2 Pn.none_fit 30 8 20 2 0
set_option maxRecDepth 100000 in
theorem image12 (w : World) : Calls Tryz.prog 55 #[] w fun e w' => (∃ p q, e = .returned (dval imgD p q) ∧ IsDk w' imgD p q) ∧ Below w.heap.size w w' := by
  obtain ⟨e1, e2, e3, e4, e5⟩ := ev_img
  have hoff : ∀ (g : Nat) (p q : Pl), DkOff g imgD0 p q := fun g p q => ⟨.inl rfl, .inl rfl⟩
  have hn := d_new 112
  rw [show Dk.fresh 112 = (imgD0, 0) from Dk.fresh_blank (n := 112) (by omega) (by omega)] at hn
  have hset := fun (W : World) => r10_set Pn.none ⟨none, 0⟩ ⟨none, 0⟩ W (isPn_zero _) (by decide) rfl 0 1 (by decide) (by decide)
  rw [show Pn.set Pn.none 1 (rtHead 0 1) = (imgQ, 0) from Prod.ext rfl e2] at hset
  have hadd := fun (W : World) (p q p' q' : Pl) (hD : IsDk W imgD0 p q) (hL : IsPn W imgQ p' q') => r8_add imgD0 imgQ p q p' q' W hD hL e1 imgQ_fit 0 1 (by decide)
  rw [show Pn.cntAdd imgD0 imgQ 0 1 = (imgP, 0) from Prod.ext rfl e3] at hadd
  have hlay := fun (W : World) (p q p' q' : Pl) (hD : IsDk W imgD0 p q) (hL : IsPn W imgP p' q') => r5_lay imgD0 imgP p q p' q' W hD hL imgP_fit.1 (by have := imgP_fit.2.1; omega)
  rw [show Pn.lay imgD0 imgP = (imgD, 0) from Prod.ext rfl e4] at hlay
  clear e1 e2 e3 e4 e5
  generalize imgD0 = E0 at *
  generalize imgQ = Q0 at *
  generalize imgP = P0 at *
  generalize imgD = D0 at *
  have hB := Below.refl w.heap.size w
  have r := Blk.new w 25 #[.string (bs []), .slice none 0 0, .int .i64 0, .bool false, .slice none 0 0]
  have rk := blk5 r
  have rkf := r.frozen
  have hB_1 := hB.alloc hB.size (.cells #[.string (bs []), .slice none 0 0, .int .i64 0, .bool false, .slice none 0 0] 25)
  go_enter Tryz.func55, Tryz.ntmps55
  go_wp2_with fail
  go_at_call 74
  refine ((hn _)).mono ?_
  rintro e w1 ⟨⟨p1, q1, rfl, d1⟩, hb1⟩
  replace hB := bt hB_1 hb1
  replace r := r.below hb1 r.lt
  replace rk := blk5 r
  replace rkf := r.frozen
  clear hB_1
  have lr1 := (r).lt
  have hs1 := (hB).size
  have x := Blk.new w1 25 #[.string (bs E0.data), .slice p1.a E0.cache.length p1.c, .int .i64 E0.fuse, .bool E0.off, .slice q1.a E0.bad.length q1.c]
  have xk := blk5 x
  have xkf := x.frozen
  have hB_2 := hB.alloc hB.size (.cells #[.string (bs E0.data), .slice p1.a E0.cache.length p1.c, .int .i64 E0.fuse, .bool E0.off, .slice q1.a E0.bad.length q1.c] 25)
  have r_3 := r.alloc (.cells #[.string (bs E0.data), .slice p1.a E0.cache.length p1.c, .int .i64 E0.fuse, .bool E0.off, .slice q1.a E0.bad.length q1.c] 25)
  have rk_3 := blk5 r_3
  have rkf_3 := r_3.frozen
  have d1_4 := d1.below ((Below.refl _ _).alloc (Nat.le_refl _) (.cells #[.string (bs E0.data), .slice p1.a E0.cache.length p1.c, .int .i64 E0.fuse, .bool E0.off, .slice q1.a E0.bad.length q1.c] 25))
  go_wp2_with fail
  go_at_call 101
  refine ((hset _)).mono ?_
  rintro e w2 ⟨⟨p2, q2, rfl, i2, o2⟩, hb2⟩
  replace hB := bt hB_2 hb2
  replace r := r_3.below hb2 r_3.lt
  replace rk := blk5 r
  replace rkf := r.frozen
  replace d1 := d1_4.below hb2
  replace x := x.below hb2 x.lt
  replace xk := blk5 x
  replace xkf := x.frozen
  clear hB_2 rk_3 rkf_3 r_3 d1_4
  clear o2
  have lx2 := (x).lt
  have oi2 := i2.apart (Nat.le_refl w2.heap.size)
  have y := Blk.new w2 28 #[.slice p2.a Q0.targets.length p2.c, .slice q2.a Q0.data.length q2.c]
  have yk := blk2 y
  have ykf := y.frozen
  have hB_5 := hB.alloc hB.size (.cells #[.slice p2.a Q0.targets.length p2.c, .slice q2.a Q0.data.length q2.c] 28)
  have r_6 := r.alloc (.cells #[.slice p2.a Q0.targets.length p2.c, .slice q2.a Q0.data.length q2.c] 28)
  have rk_6 := blk5 r_6
  have rkf_6 := r_6.frozen
  have d1_7 := d1.below ((Below.refl _ _).alloc (Nat.le_refl _) (.cells #[.slice p2.a Q0.targets.length p2.c, .slice q2.a Q0.data.length q2.c] 28))
  have x_8 := x.alloc (.cells #[.slice p2.a Q0.targets.length p2.c, .slice q2.a Q0.data.length q2.c] 28)
  have xk_8 := blk5 x_8
  have xkf_8 := x_8.frozen
  have i2_9 := i2.below ((Below.refl _ _).alloc (Nat.le_refl _) (.cells #[.slice p2.a Q0.targets.length p2.c, .slice q2.a Q0.data.length q2.c] 28))
  have ly3 := (y).lt
  go_wp2_with fail
  go_at_call 71
  refine ((hadd _ p1 q1 p2 q2 d1_7 i2_9)).mono ?_
  rintro e w3 ⟨⟨p3, q3, rfl, i3, o3⟩, hb3⟩
  replace hB := bt hB_5 hb3
  replace r := r_6.below hb3 r_6.lt
  replace rk := blk5 r
  replace rkf := r.frozen
  replace d1 := d1_7.below hb3
  replace x := x_8.below hb3 x_8.lt
  replace xk := blk5 x
  replace xkf := x.frozen
  replace i2 := i2_9.below hb3
  replace y := y.below hb3 y.lt
  replace yk := blk2 y
  replace ykf := y.frozen
  clear hB_5 rk_6 rkf_6 r_6 d1_7 xk_8 xkf_8 x_8 i2_9
  have oi3 := o3 w2.heap.size ly3 oi2
  clear o3
  have od2 := hoff w2.heap.size p1 q1
  have ne1 : w1.heap.size < w2.heap.size := lx2
  have lr3 := (r).lt
  have hB_10 := below_set2 hB (g := w2.heap.size) (by omega) (.slice p3.a P0.targets.length p3.c) (.slice q3.a P0.data.length q3.c)
  have r_11 := blk_off2 r (g := w2.heap.size) (by omega) (.slice p3.a P0.targets.length p3.c) (.slice q3.a P0.data.length q3.c)
  have rk_11 := blk5 r_11
  have rkf_11 := r_11.frozen
  have d1_12 := d1.off2 (g := w2.heap.size) (by first | assumption | omega) (.slice p3.a P0.targets.length p3.c) (.slice q3.a P0.data.length q3.c)
  have x_13 := blk_off2 x (g := w2.heap.size) (by omega) (.slice p3.a P0.targets.length p3.c) (.slice q3.a P0.data.length q3.c)
  have xk_13 := blk5 x_13
  have xkf_13 := x_13.frozen
  have i2_14 := i2.off2 (g := w2.heap.size) (by first | assumption | omega) (.slice p3.a P0.targets.length p3.c) (.slice q3.a P0.data.length q3.c)
  have y_15 := blk_set2 y (.slice p3.a P0.targets.length p3.c) (.slice q3.a P0.data.length q3.c)
  have yk_15 := blk2 y_15
  have ykf_15 := y_15.frozen
  have i3_16 := i3.off2 (g := w2.heap.size) (by first | assumption | omega) (.slice p3.a P0.targets.length p3.c) (.slice q3.a P0.data.length q3.c)
  have lx4 := (x_13).lt
  have lr4 := (r_11).lt
  go_wp2_with fail
  go_at_call 85
  refine ((hlay _ p1 q1 p3 q3 d1_12 i3_16)).mono ?_
  rintro e w4 ⟨⟨p4, q4, rfl, d4, o4⟩, hb4⟩
  replace hB := bt hB_10 hb4
  replace r := r_11.below hb4 r_11.lt
  replace rk := blk5 r
  replace rkf := r.frozen
  replace d1 := d1_12.below hb4
  replace x := x_13.below hb4 x_13.lt
  replace xk := blk5 x
  replace xkf := x.frozen
  replace i2 := i2_14.below hb4
  replace y := y_15.below hb4 y_15.lt
  replace yk := blk2 y
  replace ykf := y.frozen
  replace i3 := i3_16.below hb4
  clear hB_10 rk_11 rkf_11 r_11 d1_12 xk_13 xkf_13 x_13 i2_14 yk_15 ykf_15 y_15 i3_16
  have odx := o4 w1.heap.size lx4 (hoff _ _ _)
  have odr := o4 w.heap.size lr4 (hoff _ _ _)
  clear o4
  have hB_17 := below_set5 hB (g := w1.heap.size) (by omega) (.string (bs D0.data)) (.slice p4.a D0.cache.length p4.c) (.int .i64 D0.fuse) (.bool D0.off) (.slice q4.a D0.bad.length q4.c)
  have r_18 := blk_off5 r (g := w1.heap.size) (by omega) (.string (bs D0.data)) (.slice p4.a D0.cache.length p4.c) (.int .i64 D0.fuse) (.bool D0.off) (.slice q4.a D0.bad.length q4.c)
  have rk_18 := blk5 r_18
  have rkf_18 := r_18.frozen
  have x_19 := blk_set5 x (.string (bs D0.data)) (.slice p4.a D0.cache.length p4.c) (.int .i64 D0.fuse) (.bool D0.off) (.slice q4.a D0.bad.length q4.c)
  have xk_19 := blk5 x_19
  have xkf_19 := x_19.frozen
  have y_20 := blk_off5 y (g := w1.heap.size) (by omega) (.string (bs D0.data)) (.slice p4.a D0.cache.length p4.c) (.int .i64 D0.fuse) (.bool D0.off) (.slice q4.a D0.bad.length q4.c)
  have yk_20 := blk2 y_20
  have ykf_20 := y_20.frozen
  have d4_21 := d4.off5 (g := w1.heap.size) (by first | assumption | omega) (.string (bs D0.data)) (.slice p4.a D0.cache.length p4.c) (.int .i64 D0.fuse) (.bool D0.off) (.slice q4.a D0.bad.length q4.c)
  have hB_22 := below_set5 hB_17 (g := w.heap.size) (by omega) (.string (bs D0.data)) (.slice p4.a D0.cache.length p4.c) (.int .i64 D0.fuse) (.bool D0.off) (.slice q4.a D0.bad.length q4.c)
  have r_23 := blk_set5 r_18 (.string (bs D0.data)) (.slice p4.a D0.cache.length p4.c) (.int .i64 D0.fuse) (.bool D0.off) (.slice q4.a D0.bad.length q4.c)
  have rk_23 := blk5 r_23
  have rkf_23 := r_23.frozen
  have x_24 := blk_off5 x_19 (g := w.heap.size) (by omega) (.string (bs D0.data)) (.slice p4.a D0.cache.length p4.c) (.int .i64 D0.fuse) (.bool D0.off) (.slice q4.a D0.bad.length q4.c)
  have xk_24 := blk5 x_24
  have xkf_24 := x_24.frozen
  have y_25 := blk_off5 y_20 (g := w.heap.size) (by omega) (.string (bs D0.data)) (.slice p4.a D0.cache.length p4.c) (.int .i64 D0.fuse) (.bool D0.off) (.slice q4.a D0.bad.length q4.c)
  have yk_25 := blk2 y_25
  have ykf_25 := y_25.frozen
  have d4_26 := d4_21.off5 (g := w.heap.size) (by first | assumption | omega) (.string (bs D0.data)) (.slice p4.a D0.cache.length p4.c) (.int .i64 D0.fuse) (.bool D0.off) (.slice q4.a D0.bad.length q4.c)
  have yy := blk5 r_23
  go_wp2_with fail
  refine bodyPost_ret (v := dval D0 p4 q4) (by simp [results, Tryz.results55, go_sem, yy]) rfl ?_
  exact ⟨⟨p4, q4, rfl, d4_26⟩, hB_22⟩
set_option maxRecDepth 100000 in
set_option maxHeartbeats 2000000 in
theorem awake12 (w : World) : Calls Tryz.prog 14 #[] w fun e w' => e = .returned (.bool true) ∧ Below w.heap.size w w' := by
  obtain ⟨e1, e2, e3, e4, e5⟩ := ev_img2
  have hf := ev_img.2.2.2.2
  have him := fun (W : World) => image12 W
  have hfit := fun (W : World) (p q : Pl) (hD : IsDk W imgD p q) => r1_fit imgD p q W hD (by obtain ⟨_, _, _, h4, _⟩ := Dk.fit_parts hf; omega)
  rw [hf] at hfit
  have hpt := fun (W : World) (p q : Pl) (hD : IsDk W imgD p q) => p_point imgD Pn.none p q ⟨none, 0⟩ ⟨none, 0⟩ W hD (isPn_zero _) hf Pn.none_fit 30 8 (by decide) (by decide) 20 2 0 (by decide)
  rw [show ((8 : Nat) : Int) = 8 from rfl, show Pn.ptPoint imgD Pn.none 30 8 20 2 0 = (img2, 0) from Prod.ext rfl e1] at hpt
  have hre := fun (W : World) (p q p' q' : Pl) (hD : IsDk W imgD p q) (hL : IsPn W img2 p' q') => p_reach imgD img2 p q p' q' W hD hL hf img2_fit 0
  rw [e2] at hre
  have hpf := fun (W : World) (p' q' : Pl) (hL : IsPn W img2 p' q') => r5_fit img2 p' q' W hL
  rw [Pn.fit_iff.2 img2_fit] at hpf
  have hl1 := fun (W : World) (p q p' q' : Pl) (hD : IsDk W imgD p q) (hL : IsPn W img2 p' q') => t11_find imgD img2 p q p' q' W hD hL hf img2_fit 0 20
  have hl2 := fun (W : World) (p q p' q' : Pl) (hD : IsDk W imgD p q) (hL : IsPn W img2 p' q') => t11_find imgD img2 p q p' q' W hD hL hf img2_fit 0 21
  have hcn := fun (W : World) (p q p' q' : Pl) (hD : IsDk W imgD p q) (hL : IsPn W img2 p' q') => r8_get imgD img2 p q p' q' W hD hL hf img2_fit 1
  generalize Pn.tabFind imgD img2 0 20 = E1 at *
  generalize Pn.tabFind imgD img2 0 21 = E2 at *
  generalize Pn.cntGet imgD img2 1 = E3 at *
  obtain ⟨⟨K1, A1⟩, x1⟩ := E1
  obtain ⟨⟨K2, A2⟩, x2⟩ := E2
  obtain ⟨c3, x3⟩ := E3
  simp only at e3 e4 e5 hl1 hl2 hcn
  subst e3 e4 e5
  clear e1 e2 hf
  generalize imgD = D0 at *
  generalize img2 = P2 at *
  have hB := Below.refl w.heap.size w
  go_enter Tryz.func14, Tryz.ntmps14
  go_wp2_with fail
  go_at_call 55
  refine ((him _)).mono ?_
  rintro e w1 ⟨⟨p1, q1, rfl, d1⟩, hb1⟩
  replace hB := bt hB hb1
  have x := Blk.new w1 25 #[.string (bs D0.data), .slice p1.a D0.cache.length p1.c, .int .i64 D0.fuse, .bool D0.off, .slice q1.a D0.bad.length q1.c]
  have xk := blk5 x
  have hB_1 := hB.alloc hB.size (.cells #[.string (bs D0.data), .slice p1.a D0.cache.length p1.c, .int .i64 D0.fuse, .bool D0.off, .slice q1.a D0.bad.length q1.c] 25)
  have d1_2 := d1.below ((Below.refl _ _).alloc (Nat.le_refl _) (.cells #[.string (bs D0.data), .slice p1.a D0.cache.length p1.c, .int .i64 D0.fuse, .bool D0.off, .slice q1.a D0.bad.length q1.c] 25))
  go_wp2_with fail
  go_at_call 51
  refine ((hfit _ p1 q1 d1_2)).mono ?_
  rintro e w2 ⟨rfl, hb2⟩
  replace hB := bt hB_1 hb2
  replace d1 := d1_2.below hb2
  replace x := x.below hb2 x.lt
  replace xk := blk5 x
  clear hB_1 d1_2
  go_wp2_with fail
  go_at_call 17
  refine ((hpt _ p1 q1 d1)).mono ?_
  rintro e w3 ⟨⟨p3, q3, rfl, i3, o3⟩, hb3⟩
  replace hB := bt hB hb3
  replace d1 := d1.below hb3
  replace x := x.below hb3 x.lt
  replace xk := blk5 x
  clear o3
  have y := Blk.new w3 28 #[.slice p3.a P2.targets.length p3.c, .slice q3.a P2.data.length q3.c]
  have yk := blk2 y
  have hB_3 := hB.alloc hB.size (.cells #[.slice p3.a P2.targets.length p3.c, .slice q3.a P2.data.length q3.c] 28)
  have d1_4 := d1.below ((Below.refl _ _).alloc (Nat.le_refl _) (.cells #[.slice p3.a P2.targets.length p3.c, .slice q3.a P2.data.length q3.c] 28))
  have x_5 := x.alloc (.cells #[.slice p3.a P2.targets.length p3.c, .slice q3.a P2.data.length q3.c] 28)
  have xk_5 := blk5 x_5
  have i3_6 := i3.below ((Below.refl _ _).alloc (Nat.le_refl _) (.cells #[.slice p3.a P2.targets.length p3.c, .slice q3.a P2.data.length q3.c] 28))
  go_wp2_with fail
  go_at_call 25
  refine ((hre _ p1 q1 p3 q3 d1_4 i3_6)).mono ?_
  rintro e w4 ⟨⟨v, rfl, hv⟩, hb4⟩
  replace hB := bt hB_3 hb4
  replace d1 := d1_4.below hb4
  replace x := x_5.below hb4 x_5.lt
  replace xk := blk5 x
  replace i3 := i3_6.below hb4
  replace y := y.below hb4 y.lt
  replace yk := blk2 y
  clear hB_3 d1_4 xk_5 x_5 i3_6
  obtain ⟨A4, a4, rfl, _, _, _⟩ := own_slice hv
  have cv := Cells.of_own hv
  clear hv
  go_wp2_with fail
  go_at_call 18
  refine ((hpf _ p3 q3 i3)).mono ?_
  rintro e w5 ⟨rfl, hb5⟩
  replace hB := bt hB hb5
  replace d1 := d1.below hb5
  replace x := x.below hb5 x.lt
  replace xk := blk5 x
  replace i3 := i3.below hb5
  replace y := y.below hb5 y.lt
  replace yk := blk2 y
  replace cv := cv.below hb5
  go_wp2_with fail
  go_at_call 56
  refine ((hl1 _ p1 q1 p3 q3 d1 i3)).mono ?_
  rintro e w6 ⟨rfl, hb6⟩
  replace hB := bt hB hb6
  replace d1 := d1.below hb6
  replace x := x.below hb6 x.lt
  replace xk := blk5 x
  replace i3 := i3.below hb6
  replace y := y.below hb6 y.lt
  replace yk := blk2 y
  replace cv := cv.below hb6
  have u := Blk.new w6 32 #[.int .i64 2, .int .i64 A1]
  have uk := blk2 u
  have hB_7 := hB.alloc hB.size (.cells #[.int .i64 2, .int .i64 A1] 32)
  have d1_8 := d1.below ((Below.refl _ _).alloc (Nat.le_refl _) (.cells #[.int .i64 2, .int .i64 A1] 32))
  have x_9 := x.alloc (.cells #[.int .i64 2, .int .i64 A1] 32)
  have xk_9 := blk5 x_9
  have i3_10 := i3.below ((Below.refl _ _).alloc (Nat.le_refl _) (.cells #[.int .i64 2, .int .i64 A1] 32))
  have y_11 := y.alloc (.cells #[.int .i64 2, .int .i64 A1] 32)
  have yk_11 := blk2 y_11
  have cv_12 := cv.below ((Below.refl _ _).alloc (Nat.le_refl _) (.cells #[.int .i64 2, .int .i64 A1] 32))
  go_wp2_with fail
  go_at_call 56
  refine ((hl2 _ p1 q1 p3 q3 d1_8 i3_10)).mono ?_
  rintro e w7 ⟨rfl, hb7⟩
  replace hB := bt hB_7 hb7
  replace d1 := d1_8.below hb7
  replace x := x_9.below hb7 x_9.lt
  replace xk := blk5 x
  replace i3 := i3_10.below hb7
  replace y := y_11.below hb7 y_11.lt
  replace yk := blk2 y
  replace cv := cv_12.below hb7
  replace u := u.below hb7 u.lt
  replace uk := blk2 u
  clear hB_7 d1_8 xk_9 x_9 i3_10 yk_11 y_11 cv_12
  have t := Blk.new w7 32 #[.int .i64 0, .int .i64 A2]
  have tk := blk2 t
  have hB_13 := hB.alloc hB.size (.cells #[.int .i64 0, .int .i64 A2] 32)
  have d1_14 := d1.below ((Below.refl _ _).alloc (Nat.le_refl _) (.cells #[.int .i64 0, .int .i64 A2] 32))
  have x_15 := x.alloc (.cells #[.int .i64 0, .int .i64 A2] 32)
  have xk_15 := blk5 x_15
  have i3_16 := i3.below ((Below.refl _ _).alloc (Nat.le_refl _) (.cells #[.int .i64 0, .int .i64 A2] 32))
  have y_17 := y.alloc (.cells #[.int .i64 0, .int .i64 A2] 32)
  have yk_17 := blk2 y_17
  have cv_18 := cv.below ((Below.refl _ _).alloc (Nat.le_refl _) (.cells #[.int .i64 0, .int .i64 A2] 32))
  have u_19 := u.alloc (.cells #[.int .i64 0, .int .i64 A2] 32)
  have uk_19 := blk2 u_19
  go_wp2_with fail
  go_at_call 57
  refine ((hcn _ p1 q1 p3 q3 d1_14 i3_16)).mono ?_
  rintro e w8 ⟨rfl, hb8⟩
  replace hB := bt hB_13 hb8
  replace d1 := d1_14.below hb8
  replace x := x_15.below hb8 x_15.lt
  replace xk := blk5 x
  replace i3 := i3_16.below hb8
  replace y := y_17.below hb8 y_17.lt
  replace yk := blk2 y
  replace cv := cv_18.below hb8
  replace u := u_19.below hb8 u_19.lt
  replace uk := blk2 u
  replace t := t.below hb8 t.lt
  replace tk := blk2 t
  clear hB_13 d1_14 xk_15 x_15 i3_16 yk_17 y_17 cv_18 uk_19 u_19
  have lit := Blk.new w8 3 #[.int .i64 1]
  have clit : Cells (w8.alloc (.cells #[.int .i64 1] 3)) (some ⟨w8.heap.size, 0, none⟩) (intCells [1]) := .inr ⟨_, _, rfl, fun j u hu => by
    match j, hu with
    | 0, hu => cases hu; exact lit.cell 0⟩
  have hB_20 := hB.alloc hB.size (.cells #[.int .i64 1] 3)
  have d1_21 := d1.below ((Below.refl _ _).alloc (Nat.le_refl _) (.cells #[.int .i64 1] 3))
  have x_22 := x.alloc (.cells #[.int .i64 1] 3)
  have xk_22 := blk5 x_22
  have i3_23 := i3.below ((Below.refl _ _).alloc (Nat.le_refl _) (.cells #[.int .i64 1] 3))
  have y_24 := y.alloc (.cells #[.int .i64 1] 3)
  have yk_24 := blk2 y_24
  have cv_25 := cv.below ((Below.refl _ _).alloc (Nat.le_refl _) (.cells #[.int .i64 1] 3))
  have u_26 := u.alloc (.cells #[.int .i64 1] 3)
  have uk_26 := blk2 u_26
  have t_27 := t.alloc (.cells #[.int .i64 1] 3)
  have tk_27 := blk2 t_27
  go_wp2_with fail
  go_at_call 29
  refine ((ints12 [1] A4 (some ⟨w8.heap.size, 0, none⟩) a4 1 _ cv_25 clit (by decide))).mono ?_
  rintro e w9 ⟨rfl, hb9⟩
  replace hB := bt hB_20 hb9
  replace d1 := d1_21.below hb9
  replace x := x_22.below hb9 x_22.lt
  replace xk := blk5 x
  replace i3 := i3_23.below hb9
  replace y := y_24.below hb9 y_24.lt
  replace yk := blk2 y
  replace cv := cv_25.below hb9
  replace u := u_26.below hb9 u_26.lt
  replace uk := blk2 u
  replace t := t_27.below hb9 t_27.lt
  replace tk := blk2 t
  clear hB_20 d1_21 xk_22 x_22 i3_23 yk_24 y_24 cv_25 uk_26 u_26 tk_27 t_27
  go_wp2_with fail
  go_ret
  exact ⟨rfl, hB⟩
end Go.Proofs.YtplgmlcoeehnfaaGreat
