/- The document's ref12: a second table that is the guest's alone, and a cluster that is somewhere else. -/
import Derived.Test.YtlapjkbefkmohaaGreatSdPointPlain
import Derived.Test.YtlapjkbefkmohaaGreatSdRoots
import Derived.Test.YtlapjkbefkmohaaGreatSdTable11
import Derived.Test.YtlapjkbefkmohaaGreatSdTable4
import Derived.Test.YtlapjkbefkmohaaGreatSdAllocs
set_option linter.unusedVariables false
namespace Go.Proofs.YtlapjkbefkmohaaGreat
open Go.RowKit Go.Shelf
attribute [local go_sem] bs_mk bs_append bs_extract bs_size bs_toList bs_get
def RetPn3 (B : Nat) (L : Pn) (p q : Pl) (X : Pn × Int × Int) (e : Ending) (w : World) : Prop :=
 ∃ p' q', e = .returned (.tuple #[pval X.1 p' q', .int .i64 X.2.1, .int .i64 X.2.2]) ∧ IsPn w X.1 p' q' ∧ ∀ g, g < B → PnOff g L p q → PnOff g X.1 p' q'
set_option maxRecDepth 100000 in
set_option maxHeartbeats 2000000 in
theorem r12_fresh (D : Dk) (L : Pn) (p q p' q' : Pl) (w : World) (hD : IsDk w D p q) (hL : IsPn w L p' q') (hf : D.fit = true) (hfl : L.Fit) (g : Int) (h : Nat) (hh : h ≤ 256) (l1 i f : Int) (hlf : f = -1 ∨ 0 ≤ f) :
 Calls Tryz.prog 88 #[dval D p q, pval L p' q', gval g h, .int .i64 l1, .int .i64 i, .int .i64 f] w fun e w' => RetPn3 w.heap.size L p' q' (Pn.ptFresh D L h l1 i f) e w' ∧ Below w.heap.size w w' := by
 have HD := hid (fun (W : World) (hb : Below w.heap.size w W) => hD.below hb)
 have HL := hid (fun (W : World) (hb : Below w.heap.size w W) => hL.below hb)
 have oP : ∀ B, w.heap.size ≤ B → PnOff B L p' q' := fun B hB => hL.apart hB
 have htake := fun (W : World) (hb : Below w.heap.size w W) => r9_take D L p q p' q' W (hD.below hb) (hL.below hb) hf hfl g h hh
 have hcopy := fun (W : World) (hb : Below w.heap.size w W) (Y : Pn) (p1 q1 : Pl) (hY : IsPn W Y p1 q1) (hYf : Y.Fit) (k : Int) => t11_copy D Y p q p1 q1 W (hD.below hb) hY hf hYf f k
 have hblank := fun (W : World) (Y : Pn) (p1 q1 : Pl) (hY : IsPn W Y p1 q1) (hYf : Y.Fit) (k : Int) => t11_blank Y p1 q1 W hY hYf k
 have hadd := fun (W : World) (hb : Below w.heap.size w W) (Y : Pn) (p1 q1 : Pl) (hY : IsPn W Y p1 q1) (hYf : Y.Fit) => r8_add D Y p q p1 q1 W (hD.below hb) hY hf hYf f (-1) (by decide)
 have hset0 := fun (W : World) (hb : Below w.heap.size w W) (Y : Pn) (p1 q1 : Pl) (hY : IsPn W Y p1 q1) (hYf : Y.Fit) (k : Int) => t11_set D Y p q p1 q1 W (hD.below hb) hY hf hYf l1 i 1 k
 have hTf := Pn.alTake_fit hf hfl h
 have HBf := hid (fun (Y : Pn) (hY : Y.Fit) (k : Int) => Pn.tabBlank_fit hY k)
 have HCf := hid (fun (Y : Pn) (hY : Y.Fit) (k : Int) => Pn.tabCopy_fit (D := D) hY f k)
 have HAf := hid (fun (Y : Pn) (hY : Y.Fit) => Pn.cntAdd_fit hf hY f (-1))
 have Htk := hid (@Pn.ptFresh_take D L h l1 i f)
 have HN := hid (Pn.freshSteps_new D L h l1 i)
 have HO := hid (Pn.freshSteps_old D L h l1 i f)
 clear hD hL hf hfl
 obtain ⟨A1, a1⟩ := p
 obtain ⟨A2, a2⟩ := q
 obtain ⟨B1, b1⟩ := p'
 obtain ⟨B2, b2⟩ := q'
 have hB := Below.refl w.heap.size w
 have x := Blk.new w 25 #[.string (bs D.data), .slice A1 D.cache.length a1, .int .i64 D.fuse, .bool D.off, .slice A2 D.bad.length a2]
 have xk := blk5 x
 have hB_1 := hB.alloc hB.size (.cells #[.string (bs D.data), .slice A1 D.cache.length a1, .int .i64 D.fuse, .bool D.off, .slice A2 D.bad.length a2] 25)
 have z := Blk.new (w.alloc (.cells #[.string (bs D.data), .slice A1 D.cache.length a1, .int .i64 D.fuse, .bool D.off, .slice A2 D.bad.length a2] 25)) 67 #[.slice B1 L.targets.length b1, .slice B2 L.data.length b2]
 simp only [World.size_alloc] at z
 have zk := blk2 z
 have hB_2 := hB_1.alloc hB_1.size (.cells #[.slice B1 L.targets.length b1, .slice B2 L.data.length b2] 67)
 have x_3 := x.alloc (.cells #[.slice B1 L.targets.length b1, .slice B2 L.data.length b2] 67)
 have xk_3 := blk5 x_3
 have y := Blk.new ((w.alloc (.cells #[.string (bs D.data), .slice A1 D.cache.length a1, .int .i64 D.fuse, .bool D.off, .slice A2 D.bad.length a2] 25)).alloc (.cells #[.slice B1 L.targets.length b1, .slice B2 L.data.length b2] 67)) 27 #[.int .i64 g, .int .i64 h]
 simp only [World.size_alloc] at y
 have yk := blk2 y
 have hB_4 := hB_2.alloc hB_2.size (.cells #[.int .i64 g, .int .i64 h] 27)
 have x_5 := x_3.alloc (.cells #[.int .i64 g, .int .i64 h] 27)
 have xk_5 := blk5 x_5
 have z_6 := z.alloc (.cells #[.int .i64 g, .int .i64 h] 27)
 have zk_6 := blk2 z_6
 have r := Blk.new (((w.alloc (.cells #[.string (bs D.data), .slice A1 D.cache.length a1, .int .i64 D.fuse, .bool D.off, .slice A2 D.bad.length a2] 25)).alloc (.cells #[.slice B1 L.targets.length b1, .slice B2 L.data.length b2] 67)).alloc (.cells #[.int .i64 g, .int .i64 h] 27)) 67 #[.slice none 0 0, .slice none 0 0]
 simp only [World.size_alloc] at r
 have rk := blk2 r
 have rkf := r.frozen
 have hB_7 := hB_4.alloc hB_4.size (.cells #[.slice none 0 0, .slice none 0 0] 67)
 have x_8 := x_5.alloc (.cells #[.slice none 0 0, .slice none 0 0] 67)
 have xk_8 := blk5 x_8
 have z_9 := z_6.alloc (.cells #[.slice none 0 0, .slice none 0 0] 67)
 have zk_9 := blk2 z_9
 have y_10 := y.alloc (.cells #[.slice none 0 0, .slice none 0 0] 67)
 have yk_10 := blk2 y_10
 go_enter Tryz.func88, Tryz.ntmps88
 have lr1 := (r).lt
 have hs1 := (hB_7).size
 go_wp2_with fail
 go_at_call 35
 refine ((htake _ hB_7)).mono ?_
 rintro e w1 ⟨p1, q1, rfl, i1, o1, hb1⟩
 replace hB := bt hB_7 hb1
 replace x := x_8.below hb1 x_8.lt
 replace xk := blk5 x
 replace z := z_9.below hb1 z_9.lt
 replace zk := blk2 z
 replace y := y_10.below hb1 y_10.lt
 replace yk := blk2 y
 replace r := r.below hb1 r.lt
 replace rk := blk2 r
 replace rkf := r.frozen
 clear hB_1 hB_2 xk_3 x_3 hB_4 xk_5 x_5 zk_6 z_6 hB_7 xk_8 x_8 zk_9 z_9 yk_10 y_10
 have or1 := o1 _ lr1 (oP (w.heap.size + 1 + 1 + 1) (by omega))
 have O1 : ∀ b, b < w.heap.size → PnOff b L ⟨B1, b1⟩ ⟨B2, b2⟩ → PnOff b (Pn.alTake D L h).1 p1 q1 := fun b hb ho => o1 b (Nat.lt_of_lt_of_le hb hs1) ho
 have oq1 := i1.apart (Nat.le_refl w1.heap.size)
 have hs2 := (hB).size
 have lr2 := (r).lt
 clear o1 htake
 obtain ⟨⟨T, k, er⟩, hT⟩ : ∃ x, Pn.alTake D L h = x := ⟨_, rfl⟩
 rw [hT] at i1 or1 O1 oq1 hTf Htk HN HO
 have Hk := hid (show (Pn.alTake D L h).2.1 = k by rw [hT])
 rw [hT]
 clear hT
 simp only at i1 or1 O1 oq1 hTf Htk HN HO
 have hset := fun (W : World) (hb : Below w.heap.size w W) (Y : Pn) (p1 q1 : Pl) (hY : IsPn W Y p1 q1) (hYf : Y.Fit) => hset0 W hb Y p1 q1 hY hYf k
 clear hset0
 have rp := r
 have Bp := hB
 have qb := Blk.new w1 67 #[.slice p1.a T.targets.length p1.c, .slice q1.a T.data.length q1.c]
 have qbk := blk2 qb
 have qbkf := qb.frozen
 have hB_11 := hB.alloc hB.size (.cells #[.slice p1.a T.targets.length p1.c, .slice q1.a T.data.length q1.c] 67)
 have x_12 := x.alloc (.cells #[.slice p1.a T.targets.length p1.c, .slice q1.a T.data.length q1.c] 67)
 have xk_12 := blk5 x_12
 have z_13 := z.alloc (.cells #[.slice p1.a T.targets.length p1.c, .slice q1.a T.data.length q1.c] 67)
 have zk_13 := blk2 z_13
 have y_14 := y.alloc (.cells #[.slice p1.a T.targets.length p1.c, .slice q1.a T.data.length q1.c] 67)
 have yk_14 := blk2 y_14
 have r_15 := r.alloc (.cells #[.slice p1.a T.targets.length p1.c, .slice q1.a T.data.length q1.c] 67)
 have rk_15 := blk2 r_15
 have rkf_15 := r_15.frozen
 have i1_16 := i1.below ((Below.refl _ _).alloc (Nat.le_refl _) (.cells #[.slice p1.a T.targets.length p1.c, .slice q1.a T.data.length q1.c] 67))
 by_cases h1 : er = 0
 rotate_left
 · have n1 : (er != 0) = true := by simpa using h1
   have HE := hid (Htk.out h1)
   clear h1
   have yy := blk2 ((blk_set2 rp (.slice B1 L.targets.length b1) (.slice B2 L.data.length b2)).alloc (.cells #[.slice p1.a T.targets.length p1.c, .slice q1.a T.data.length q1.c] 67))
   have qq := (rp.set 0 (.slice B1 L.targets.length b1)).frozen
   have rpf := rp.frozen
   have rpk := blk2 rp
   have b8 := below_set2 Bp (g := w.heap.size + 1 + 1 + 1) (by omega) (.slice B1 L.targets.length b1) (.slice B2 L.data.length b2)
   have b9 := b8.alloc b8.size (.cells #[.slice p1.a T.targets.length p1.c, .slice q1.a T.data.length q1.c] 67)
   have i9 := ((HL.out _ Bp).off2 (oP (w.heap.size + 1 + 1 + 1) (by omega)) (.slice B1 L.targets.length b1) (.slice B2 L.data.length b2)).below ((Below.refl _ _).alloc (Nat.le_refl _) (.cells #[.slice p1.a T.targets.length p1.c, .slice q1.a T.data.length q1.c] 67))
   go_wp2_with fail
   refine bodyPost_ret (v := .tuple #[pval L ⟨B1, b1⟩ ⟨B2, b2⟩, .int .i64 0, .int .i64 er]) (by simp [results, Tryz.results88, go_sem, yy]) rfl ?_
   rw [HE.out]
   exact ⟨⟨⟨B1, b1⟩, ⟨B2, b2⟩, rfl, i9, fun b hb ho => ho⟩, b9⟩
 subst h1
 rcases hlf with rfl | hf0
 · have d1 : decide ((-1 : Int) < 0) = true := rfl
   have d2 : decide ((0 : Int) ≤ -1) = false := rfl
   replace HN := hid (HN.out.trans (by rw [Pn.step_zero (s := (T, 0)) rfl]))
   have HS0 := HN
   clear HO HN Htk
   have lq2 := (qb).lt
   have lr2 := (r_15).lt
   have hs2 := (hB_11).size
   go_wp2_with fail
   go_at_call 95
   refine ((hblank _ T p1 q1 i1_16 hTf k)).mono ?_
   rintro e w2 ⟨⟨p2, q2, rfl, i2, o2⟩, hb2⟩
   replace hB := bt hB_11 hb2
   replace x := x_12.below hb2 x_12.lt
   replace xk := blk5 x
   replace z := z_13.below hb2 z_13.lt
   replace zk := blk2 z
   replace y := y_14.below hb2 y_14.lt
   replace yk := blk2 y
   replace r := r_15.below hb2 r_15.lt
   replace rk := blk2 r
   replace rkf := r.frozen
   replace i1 := i1_16.below hb2
   replace qb := qb.below hb2 qb.lt
   replace qbk := blk2 qb
   replace qbkf := qb.frozen
   clear hB_11 xk_12 x_12 zk_13 z_13 yk_14 y_14 rk_15 rkf_15 r_15 i1_16
   generalize hM2 : Pn.tabBlank T k = R at *
   have or2 := o2 _ lr2 or1
   have oq2 := o2 _ lq2 oq1
   have O2 : ∀ b, b < w.heap.size → PnOff b L ⟨B1, b1⟩ ⟨B2, b2⟩ → PnOff b R.1 p2 q2 := fun b hb ho => o2 b (Nat.lt_of_lt_of_le hb hs2) (O1 b hb ho)
   have HM2 := hid hM2
   clear o2 hM2
   have hB_17 := below_set2 hB (g := w1.heap.size) (by omega) (.slice p2.a R.1.targets.length p2.c) (.slice q2.a R.1.data.length q2.c)
   have x_18 := blk_off2 x (g := w1.heap.size) (by omega) (.slice p2.a R.1.targets.length p2.c) (.slice q2.a R.1.data.length q2.c)
   have xk_18 := blk5 x_18
   have z_19 := blk_off2 z (g := w1.heap.size) (by omega) (.slice p2.a R.1.targets.length p2.c) (.slice q2.a R.1.data.length q2.c)
   have zk_19 := blk2 z_19
   have y_20 := blk_off2 y (g := w1.heap.size) (by omega) (.slice p2.a R.1.targets.length p2.c) (.slice q2.a R.1.data.length q2.c)
   have yk_20 := blk2 y_20
   have r_21 := blk_off2 r (g := w1.heap.size) (by omega) (.slice p2.a R.1.targets.length p2.c) (.slice q2.a R.1.data.length q2.c)
   have rk_21 := blk2 r_21
   have rkf_21 := r_21.frozen
   have i1_22 := i1.off2 (g := w1.heap.size) (by first | assumption | omega) (.slice p2.a R.1.targets.length p2.c) (.slice q2.a R.1.data.length q2.c)
   have qb_23 := blk_set2 qb (.slice p2.a R.1.targets.length p2.c) (.slice q2.a R.1.data.length q2.c)
   have qbk_23 := blk2 qb_23
   have qbkf_23 := qb_23.frozen
   have i2_24 := i2.off2 (g := w1.heap.size) (by first | assumption | omega) (.slice p2.a R.1.targets.length p2.c) (.slice q2.a R.1.data.length q2.c)
   have R1f : R.1.Fit := by rw [← HM2.out]; exact HBf.out T hTf k
   by_cases h2 : R.2 = 0
   · have n2 : (R.2 != 0) = false := by simp [h2]
     replace HS0 := hid (HS0.out.trans (Pn.step_zero h2))
     clear h2
     have lq9 := (qb_23).lt
     have lr9 := (r_21).lt
     have hs9 := (hB_17).size
     go_wp2_with fail
     go_at_call 72
     refine ((hset _ hB_17 R.1 p2 q2 i2_24 R1f)).mono ?_
     rintro e w9 ⟨⟨p9, q9, rfl, i9, o9⟩, hb9⟩
     replace hB := bt hB_17 hb9
     replace x := x_18.below hb9 x_18.lt
     replace xk := blk5 x
     replace z := z_19.below hb9 z_19.lt
     replace zk := blk2 z
     replace y := y_20.below hb9 y_20.lt
     replace yk := blk2 y
     replace r := r_21.below hb9 r_21.lt
     replace rk := blk2 r
     replace rkf := r.frozen
     replace i1 := i1_22.below hb9
     replace qb := qb_23.below hb9 qb_23.lt
     replace qbk := blk2 qb
     replace qbkf := qb.frozen
     replace i2 := i2_24.below hb9
     clear hB_17 xk_18 x_18 zk_19 z_19 yk_20 y_20 rk_21 rkf_21 r_21 i1_22 qbk_23 qbkf_23 qb_23 i2_24
     generalize hM9 : Pn.tabSet D R.1 l1 i 1 k = S at *
     have or9 := o9 _ lr9 or2
     have oq9 := o9 _ lq9 oq2
     have O9 : ∀ b, b < w.heap.size → PnOff b L ⟨B1, b1⟩ ⟨B2, b2⟩ → PnOff b S.1 p9 q9 := fun b hb ho => o9 b (Nat.lt_of_lt_of_le hb hs9) (O2 b hb ho)
     have HM9 := hid hM9
     clear o9 hM9
     have hB_25 := below_set2 hB (g := w1.heap.size) (by omega) (.slice p9.a S.1.targets.length p9.c) (.slice q9.a S.1.data.length q9.c)
     have x_26 := blk_off2 x (g := w1.heap.size) (by omega) (.slice p9.a S.1.targets.length p9.c) (.slice q9.a S.1.data.length q9.c)
     have xk_26 := blk5 x_26
     have z_27 := blk_off2 z (g := w1.heap.size) (by omega) (.slice p9.a S.1.targets.length p9.c) (.slice q9.a S.1.data.length q9.c)
     have zk_27 := blk2 z_27
     have y_28 := blk_off2 y (g := w1.heap.size) (by omega) (.slice p9.a S.1.targets.length p9.c) (.slice q9.a S.1.data.length q9.c)
     have yk_28 := blk2 y_28
     have r_29 := blk_off2 r (g := w1.heap.size) (by omega) (.slice p9.a S.1.targets.length p9.c) (.slice q9.a S.1.data.length q9.c)
     have rk_29 := blk2 r_29
     have rkf_29 := r_29.frozen
     have i1_30 := i1.off2 (g := w1.heap.size) (by first | assumption | omega) (.slice p9.a S.1.targets.length p9.c) (.slice q9.a S.1.data.length q9.c)
     have qb_31 := blk_set2 qb (.slice p9.a S.1.targets.length p9.c) (.slice q9.a S.1.data.length q9.c)
     have qbk_31 := blk2 qb_31
     have qbkf_31 := qb_31.frozen
     have i2_32 := i2.off2 (g := w1.heap.size) (by first | assumption | omega) (.slice p9.a S.1.targets.length p9.c) (.slice q9.a S.1.data.length q9.c)
     have i9_33 := i9.off2 (g := w1.heap.size) (by first | assumption | omega) (.slice p9.a S.1.targets.length p9.c) (.slice q9.a S.1.data.length q9.c)
     have Hs := hid (show Pn.freshSteps D L h l1 i (-1) = S by rw [HS0.out])
     by_cases h9 : S.2 = 0
     · have HE := hid (show Pn.ptFresh D L h l1 i (-1) = (S.1, k, 0) by rw [Pn.ptFresh, Hs.out, if_neg (by rw [h9]; simp), Hk.out])
       have n9 : (S.2 != 0) = false := by simp [h9]
       clear h9
       have yy := blk2 (blk_set2 r_29 (.slice p9.a S.1.targets.length p9.c) (.slice q9.a S.1.data.length q9.c))
       have qq := ((r_29).set 0 (.slice p9.a S.1.targets.length p9.c)).frozen
       have b9 := below_set2 hB_25 (g := w.heap.size + 1 + 1 + 1) (by omega) (.slice p9.a S.1.targets.length p9.c) (.slice q9.a S.1.data.length q9.c)
       have i9 := i9_33.off2 or9 (.slice p9.a S.1.targets.length p9.c) (.slice q9.a S.1.data.length q9.c)
       go_wp2_with fail
       refine bodyPost_ret (v := .tuple #[pval S.1 p9 q9, .int .i64 k, .int .i64 0]) (by simp [results, Tryz.results88, go_sem, yy]) rfl ?_
       rw [HE.out]
       exact ⟨⟨p9, q9, rfl, i9, O9⟩, b9⟩
     · have HE := hid (show Pn.ptFresh D L h l1 i (-1) = (L, 0, S.2) by rw [Pn.ptFresh, Hs.out, if_pos h9])
       have n9 : (S.2 != 0) = true := by simpa using h9
       clear h9
       have yy := blk2 (blk_set2 r_29 (.slice B1 L.targets.length b1) (.slice B2 L.data.length b2))
       have qq := ((r_29).set 0 (.slice B1 L.targets.length b1)).frozen
       have b9 := below_set2 hB_25 (g := w.heap.size + 1 + 1 + 1) (by omega) (.slice B1 L.targets.length b1) (.slice B2 L.data.length b2)
       have i9 := (HL.out _ hB_25).off2 (oP (w.heap.size + 1 + 1 + 1) (by omega)) (.slice B1 L.targets.length b1) (.slice B2 L.data.length b2)
       go_wp2_with fail
       refine bodyPost_ret (v := .tuple #[pval L ⟨B1, b1⟩ ⟨B2, b2⟩, .int .i64 0, .int .i64 S.2]) (by simp [results, Tryz.results88, go_sem, yy]) rfl ?_
       rw [HE.out]
       exact ⟨⟨⟨B1, b1⟩, ⟨B2, b2⟩, rfl, i9, fun b hb ho => ho⟩, b9⟩
   · have HE := hid (show Pn.ptFresh D L h l1 i (-1) = (L, 0, R.2) by rw [Pn.ptFresh, HS0.out, Pn.step_err h2, if_pos h2])
     have n2 : (R.2 != 0) = true := by simpa using h2
     clear h2
     have yy := blk2 (blk_set2 r_21 (.slice B1 L.targets.length b1) (.slice B2 L.data.length b2))
     have qq := ((r_21).set 0 (.slice B1 L.targets.length b1)).frozen
     have b9 := below_set2 hB_17 (g := w.heap.size + 1 + 1 + 1) (by omega) (.slice B1 L.targets.length b1) (.slice B2 L.data.length b2)
     have i9 := (HL.out _ hB_17).off2 (oP (w.heap.size + 1 + 1 + 1) (by omega)) (.slice B1 L.targets.length b1) (.slice B2 L.data.length b2)
     go_wp2_with fail
     refine bodyPost_ret (v := .tuple #[pval L ⟨B1, b1⟩ ⟨B2, b2⟩, .int .i64 0, .int .i64 R.2]) (by simp [results, Tryz.results88, go_sem, yy]) rfl ?_
     rw [HE.out]
     exact ⟨⟨⟨B1, b1⟩, ⟨B2, b2⟩, rfl, i9, fun b hb ho => ho⟩, b9⟩
 · have d1 : decide (f < 0) = false := decide_eq_false (by omega)
   have d2 : decide (0 ≤ f) = true := decide_eq_true hf0
   have HS0 := hid ((HO.out hf0).trans (by rw [Pn.step_zero (s := (T, 0)) rfl]))
   clear HO HN Htk
   have lq2 := (qb).lt
   have lr2 := (r_15).lt
   have hs2 := (hB_11).size
   go_wp2_with fail
   go_at_call 96
   refine ((hcopy _ hB_11 T p1 q1 i1_16 hTf k)).mono ?_
   rintro e w2 ⟨⟨p2, q2, rfl, i2, o2⟩, hb2⟩
   replace hB := bt hB_11 hb2
   replace x := x_12.below hb2 x_12.lt
   replace xk := blk5 x
   replace z := z_13.below hb2 z_13.lt
   replace zk := blk2 z
   replace y := y_14.below hb2 y_14.lt
   replace yk := blk2 y
   replace r := r_15.below hb2 r_15.lt
   replace rk := blk2 r
   replace rkf := r.frozen
   replace i1 := i1_16.below hb2
   replace qb := qb.below hb2 qb.lt
   replace qbk := blk2 qb
   replace qbkf := qb.frozen
   clear hB_11 xk_12 x_12 zk_13 z_13 yk_14 y_14 rk_15 rkf_15 r_15 i1_16
   generalize hM2 : Pn.tabCopy D T f k = R at *
   have or2 := o2 _ lr2 or1
   have oq2 := o2 _ lq2 oq1
   have O2 : ∀ b, b < w.heap.size → PnOff b L ⟨B1, b1⟩ ⟨B2, b2⟩ → PnOff b R.1 p2 q2 := fun b hb ho => o2 b (Nat.lt_of_lt_of_le hb hs2) (O1 b hb ho)
   have HM2 := hid hM2
   clear o2 hM2
   have hB_17 := below_set2 hB (g := w1.heap.size) (by omega) (.slice p2.a R.1.targets.length p2.c) (.slice q2.a R.1.data.length q2.c)
   have x_18 := blk_off2 x (g := w1.heap.size) (by omega) (.slice p2.a R.1.targets.length p2.c) (.slice q2.a R.1.data.length q2.c)
   have xk_18 := blk5 x_18
   have z_19 := blk_off2 z (g := w1.heap.size) (by omega) (.slice p2.a R.1.targets.length p2.c) (.slice q2.a R.1.data.length q2.c)
   have zk_19 := blk2 z_19
   have y_20 := blk_off2 y (g := w1.heap.size) (by omega) (.slice p2.a R.1.targets.length p2.c) (.slice q2.a R.1.data.length q2.c)
   have yk_20 := blk2 y_20
   have r_21 := blk_off2 r (g := w1.heap.size) (by omega) (.slice p2.a R.1.targets.length p2.c) (.slice q2.a R.1.data.length q2.c)
   have rk_21 := blk2 r_21
   have rkf_21 := r_21.frozen
   have i1_22 := i1.off2 (g := w1.heap.size) (by first | assumption | omega) (.slice p2.a R.1.targets.length p2.c) (.slice q2.a R.1.data.length q2.c)
   have qb_23 := blk_set2 qb (.slice p2.a R.1.targets.length p2.c) (.slice q2.a R.1.data.length q2.c)
   have qbk_23 := blk2 qb_23
   have qbkf_23 := qb_23.frozen
   have i2_24 := i2.off2 (g := w1.heap.size) (by first | assumption | omega) (.slice p2.a R.1.targets.length p2.c) (.slice q2.a R.1.data.length q2.c)
   have R1f : R.1.Fit := by rw [← HM2.out]; exact HCf.out T hTf k
   by_cases h2 : R.2 = 0
   rotate_left
   · have HE := hid (show Pn.ptFresh D L h l1 i f = (L, 0, R.2) by rw [Pn.ptFresh, HS0.out, Pn.step_err h2, Pn.step_err h2, if_pos h2])
     have n2 : (R.2 != 0) = true := by simpa using h2
     clear h2
     have yy := blk2 (blk_set2 r_21 (.slice B1 L.targets.length b1) (.slice B2 L.data.length b2))
     have qq := ((r_21).set 0 (.slice B1 L.targets.length b1)).frozen
     have b9 := below_set2 hB_17 (g := w.heap.size + 1 + 1 + 1) (by omega) (.slice B1 L.targets.length b1) (.slice B2 L.data.length b2)
     have i9 := (HL.out _ hB_17).off2 (oP (w.heap.size + 1 + 1 + 1) (by omega)) (.slice B1 L.targets.length b1) (.slice B2 L.data.length b2)
     go_wp2_with fail
     refine bodyPost_ret (v := .tuple #[pval L ⟨B1, b1⟩ ⟨B2, b2⟩, .int .i64 0, .int .i64 R.2]) (by simp [results, Tryz.results88, go_sem, yy]) rfl ?_
     rw [HE.out]
     exact ⟨⟨⟨B1, b1⟩, ⟨B2, b2⟩, rfl, i9, fun b hb ho => ho⟩, b9⟩
   have n2 : (R.2 != 0) = false := by simp [h2]
   replace HS0 := hid (HS0.out.trans (by rw [Pn.step_zero h2]))
   clear h2
   have lq3 := (qb_23).lt
   have lr3 := (r_21).lt
   have hs3 := (hB_17).size
   go_wp2_with fail
   go_at_call 52
   refine ((hadd _ hB_17 R.1 p2 q2 i2_24 R1f)).mono ?_
   rintro e w3 ⟨⟨p3, q3, rfl, i3, o3⟩, hb3⟩
   replace hB := bt hB_17 hb3
   replace x := x_18.below hb3 x_18.lt
   replace xk := blk5 x
   replace z := z_19.below hb3 z_19.lt
   replace zk := blk2 z
   replace y := y_20.below hb3 y_20.lt
   replace yk := blk2 y
   replace r := r_21.below hb3 r_21.lt
   replace rk := blk2 r
   replace rkf := r.frozen
   replace i1 := i1_22.below hb3
   replace qb := qb_23.below hb3 qb_23.lt
   replace qbk := blk2 qb
   replace qbkf := qb.frozen
   replace i2 := i2_24.below hb3
   clear hB_17 xk_18 x_18 zk_19 z_19 yk_20 y_20 rk_21 rkf_21 r_21 i1_22 qbk_23 qbkf_23 qb_23 i2_24
   generalize hM3 : Pn.cntAdd D R.1 f (-1) = U at *
   have or3 := o3 _ lr3 or2
   have oq3 := o3 _ lq3 oq2
   have O3 : ∀ b, b < w.heap.size → PnOff b L ⟨B1, b1⟩ ⟨B2, b2⟩ → PnOff b U.1 p3 q3 := fun b hb ho => o3 b (Nat.lt_of_lt_of_le hb hs3) (O2 b hb ho)
   have HM3 := hid hM3
   clear o3 hM3
   have hB_25 := below_set2 hB (g := w1.heap.size) (by omega) (.slice p3.a U.1.targets.length p3.c) (.slice q3.a U.1.data.length q3.c)
   have x_26 := blk_off2 x (g := w1.heap.size) (by omega) (.slice p3.a U.1.targets.length p3.c) (.slice q3.a U.1.data.length q3.c)
   have xk_26 := blk5 x_26
   have z_27 := blk_off2 z (g := w1.heap.size) (by omega) (.slice p3.a U.1.targets.length p3.c) (.slice q3.a U.1.data.length q3.c)
   have zk_27 := blk2 z_27
   have y_28 := blk_off2 y (g := w1.heap.size) (by omega) (.slice p3.a U.1.targets.length p3.c) (.slice q3.a U.1.data.length q3.c)
   have yk_28 := blk2 y_28
   have r_29 := blk_off2 r (g := w1.heap.size) (by omega) (.slice p3.a U.1.targets.length p3.c) (.slice q3.a U.1.data.length q3.c)
   have rk_29 := blk2 r_29
   have rkf_29 := r_29.frozen
   have i1_30 := i1.off2 (g := w1.heap.size) (by first | assumption | omega) (.slice p3.a U.1.targets.length p3.c) (.slice q3.a U.1.data.length q3.c)
   have qb_31 := blk_set2 qb (.slice p3.a U.1.targets.length p3.c) (.slice q3.a U.1.data.length q3.c)
   have qbk_31 := blk2 qb_31
   have qbkf_31 := qb_31.frozen
   have i2_32 := i2.off2 (g := w1.heap.size) (by first | assumption | omega) (.slice p3.a U.1.targets.length p3.c) (.slice q3.a U.1.data.length q3.c)
   have i3_33 := i3.off2 (g := w1.heap.size) (by first | assumption | omega) (.slice p3.a U.1.targets.length p3.c) (.slice q3.a U.1.data.length q3.c)
   have U1f : U.1.Fit := by rw [← HM3.out]; exact HAf.out R.1 R1f
   by_cases h3 : U.2 = 0
   rotate_left
   · have HE := hid (show Pn.ptFresh D L h l1 i f = (L, 0, U.2) by rw [Pn.ptFresh, HS0.out, Pn.step_err h3, if_pos h3])
     have n3 : (U.2 != 0) = true := by simpa using h3
     clear h3
     have yy := blk2 (blk_set2 r_29 (.slice B1 L.targets.length b1) (.slice B2 L.data.length b2))
     have qq := ((r_29).set 0 (.slice B1 L.targets.length b1)).frozen
     have b9 := below_set2 hB_25 (g := w.heap.size + 1 + 1 + 1) (by omega) (.slice B1 L.targets.length b1) (.slice B2 L.data.length b2)
     have i9 := (HL.out _ hB_25).off2 (oP (w.heap.size + 1 + 1 + 1) (by omega)) (.slice B1 L.targets.length b1) (.slice B2 L.data.length b2)
     go_wp2_with fail
     refine bodyPost_ret (v := .tuple #[pval L ⟨B1, b1⟩ ⟨B2, b2⟩, .int .i64 0, .int .i64 U.2]) (by simp [results, Tryz.results88, go_sem, yy]) rfl ?_
     rw [HE.out]
     exact ⟨⟨⟨B1, b1⟩, ⟨B2, b2⟩, rfl, i9, fun b hb ho => ho⟩, b9⟩
   have n3 : (U.2 != 0) = false := by simp [h3]
   replace HS0 := hid (HS0.out.trans (Pn.step_zero h3))
   clear h3
   have lq9 := (qb_31).lt
   have lr9 := (r_29).lt
   have hs9 := (hB_25).size
   go_wp2_with fail
   go_at_call 72
   refine ((hset _ hB_25 U.1 p3 q3 i3_33 U1f)).mono ?_
   rintro e w9 ⟨⟨p9, q9, rfl, i9, o9⟩, hb9⟩
   replace hB := bt hB_25 hb9
   replace x := x_26.below hb9 x_26.lt
   replace xk := blk5 x
   replace z := z_27.below hb9 z_27.lt
   replace zk := blk2 z
   replace y := y_28.below hb9 y_28.lt
   replace yk := blk2 y
   replace r := r_29.below hb9 r_29.lt
   replace rk := blk2 r
   replace rkf := r.frozen
   replace i1 := i1_30.below hb9
   replace qb := qb_31.below hb9 qb_31.lt
   replace qbk := blk2 qb
   replace qbkf := qb.frozen
   replace i2 := i2_32.below hb9
   replace i3 := i3_33.below hb9
   clear hB_25 xk_26 x_26 zk_27 z_27 yk_28 y_28 rk_29 rkf_29 r_29 i1_30 qbk_31 qbkf_31 qb_31 i2_32 i3_33
   generalize hM9 : Pn.tabSet D U.1 l1 i 1 k = S at *
   have or9 := o9 _ lr9 or3
   have oq9 := o9 _ lq9 oq3
   have O9 : ∀ b, b < w.heap.size → PnOff b L ⟨B1, b1⟩ ⟨B2, b2⟩ → PnOff b S.1 p9 q9 := fun b hb ho => o9 b (Nat.lt_of_lt_of_le hb hs9) (O3 b hb ho)
   have HM9 := hid hM9
   clear o9 hM9
   have hB_34 := below_set2 hB (g := w1.heap.size) (by omega) (.slice p9.a S.1.targets.length p9.c) (.slice q9.a S.1.data.length q9.c)
   have x_35 := blk_off2 x (g := w1.heap.size) (by omega) (.slice p9.a S.1.targets.length p9.c) (.slice q9.a S.1.data.length q9.c)
   have xk_35 := blk5 x_35
   have z_36 := blk_off2 z (g := w1.heap.size) (by omega) (.slice p9.a S.1.targets.length p9.c) (.slice q9.a S.1.data.length q9.c)
   have zk_36 := blk2 z_36
   have y_37 := blk_off2 y (g := w1.heap.size) (by omega) (.slice p9.a S.1.targets.length p9.c) (.slice q9.a S.1.data.length q9.c)
   have yk_37 := blk2 y_37
   have r_38 := blk_off2 r (g := w1.heap.size) (by omega) (.slice p9.a S.1.targets.length p9.c) (.slice q9.a S.1.data.length q9.c)
   have rk_38 := blk2 r_38
   have rkf_38 := r_38.frozen
   have i1_39 := i1.off2 (g := w1.heap.size) (by first | assumption | omega) (.slice p9.a S.1.targets.length p9.c) (.slice q9.a S.1.data.length q9.c)
   have qb_40 := blk_set2 qb (.slice p9.a S.1.targets.length p9.c) (.slice q9.a S.1.data.length q9.c)
   have qbk_40 := blk2 qb_40
   have qbkf_40 := qb_40.frozen
   have i2_41 := i2.off2 (g := w1.heap.size) (by first | assumption | omega) (.slice p9.a S.1.targets.length p9.c) (.slice q9.a S.1.data.length q9.c)
   have i3_42 := i3.off2 (g := w1.heap.size) (by first | assumption | omega) (.slice p9.a S.1.targets.length p9.c) (.slice q9.a S.1.data.length q9.c)
   have i9_43 := i9.off2 (g := w1.heap.size) (by first | assumption | omega) (.slice p9.a S.1.targets.length p9.c) (.slice q9.a S.1.data.length q9.c)
   have Hs := hid (show Pn.freshSteps D L h l1 i f = S by rw [HS0.out])
   by_cases h9 : S.2 = 0
   · have HE := hid (show Pn.ptFresh D L h l1 i f = (S.1, k, 0) by rw [Pn.ptFresh, Hs.out, if_neg (by rw [h9]; simp), Hk.out])
     have n9 : (S.2 != 0) = false := by simp [h9]
     clear h9
     have yy := blk2 (blk_set2 r_38 (.slice p9.a S.1.targets.length p9.c) (.slice q9.a S.1.data.length q9.c))
     have qq := ((r_38).set 0 (.slice p9.a S.1.targets.length p9.c)).frozen
     have b9 := below_set2 hB_34 (g := w.heap.size + 1 + 1 + 1) (by omega) (.slice p9.a S.1.targets.length p9.c) (.slice q9.a S.1.data.length q9.c)
     have i9 := i9_43.off2 or9 (.slice p9.a S.1.targets.length p9.c) (.slice q9.a S.1.data.length q9.c)
     go_wp2_with fail
     refine bodyPost_ret (v := .tuple #[pval S.1 p9 q9, .int .i64 k, .int .i64 0]) (by simp [results, Tryz.results88, go_sem, yy]) rfl ?_
     rw [HE.out]
     exact ⟨⟨p9, q9, rfl, i9, O9⟩, b9⟩
   · have HE := hid (show Pn.ptFresh D L h l1 i f = (L, 0, S.2) by rw [Pn.ptFresh, Hs.out, if_pos h9])
     have n9 : (S.2 != 0) = true := by simpa using h9
     clear h9
     have yy := blk2 (blk_set2 r_38 (.slice B1 L.targets.length b1) (.slice B2 L.data.length b2))
     have qq := ((r_38).set 0 (.slice B1 L.targets.length b1)).frozen
     have b9 := below_set2 hB_34 (g := w.heap.size + 1 + 1 + 1) (by omega) (.slice B1 L.targets.length b1) (.slice B2 L.data.length b2)
     have i9 := (HL.out _ hB_34).off2 (oP (w.heap.size + 1 + 1 + 1) (by omega)) (.slice B1 L.targets.length b1) (.slice B2 L.data.length b2)
     go_wp2_with fail
     refine bodyPost_ret (v := .tuple #[pval L ⟨B1, b1⟩ ⟨B2, b2⟩, .int .i64 0, .int .i64 S.2]) (by simp [results, Tryz.results88, go_sem, yy]) rfl ?_
     rw [HE.out]
     exact ⟨⟨⟨B1, b1⟩, ⟨B2, b2⟩, rfl, i9, fun b hb ho => ho⟩, b9⟩
set_option maxRecDepth 100000 in
set_option maxHeartbeats 2000000 in
theorem r12_own (D : Dk) (L : Pn) (p q p' q' : Pl) (w : World) (hD : IsDk w D p q) (hL : IsPn w L p' q') (hf : D.fit = true) (hfl : L.Fit) (g : Int) (h : Nat) (hh : h ≤ 256) (hg64 : g ≤ 64) (u : Int) :
 Calls Tryz.prog 71 #[dval D p q, pval L p' q', gval g h, .int .i64 u] w fun e w' => RetPn3 w.heap.size L p' q' (Pn.ptOwn D L g h u) e w' ∧ Below w.heap.size w w' := by
 have HL := hid (fun (W : World) (hb : Below w.heap.size w W) => hL.below hb)
 have oP : ∀ B, w.heap.size ≤ B → PnOff B L p' q' := fun B hB => hL.apart hB
 by_cases hu : u < 0 ∨ g ≤ u
 · have HE := hid (Pn.ptOwn_out (D := D) (L := L) (h := h) hu)
   clear hD hL hf hfl
   obtain ⟨A1, a1⟩ := p
   obtain ⟨A2, a2⟩ := q
   obtain ⟨B1, b1⟩ := p'
   obtain ⟨B2, b2⟩ := q'
   have hB := Below.refl w.heap.size w
   have x := Blk.new w 25 #[.string (bs D.data), .slice A1 D.cache.length a1, .int .i64 D.fuse, .bool D.off, .slice A2 D.bad.length a2]
   have xk := blk5 x
   have hB_1 := hB.alloc hB.size (.cells #[.string (bs D.data), .slice A1 D.cache.length a1, .int .i64 D.fuse, .bool D.off, .slice A2 D.bad.length a2] 25)
   have z := Blk.new (w.alloc (.cells #[.string (bs D.data), .slice A1 D.cache.length a1, .int .i64 D.fuse, .bool D.off, .slice A2 D.bad.length a2] 25)) 67 #[.slice B1 L.targets.length b1, .slice B2 L.data.length b2]
   simp only [World.size_alloc] at z
   have zk := blk2 z
   have hB_2 := hB_1.alloc hB_1.size (.cells #[.slice B1 L.targets.length b1, .slice B2 L.data.length b2] 67)
   have x_3 := x.alloc (.cells #[.slice B1 L.targets.length b1, .slice B2 L.data.length b2] 67)
   have xk_3 := blk5 x_3
   have y := Blk.new ((w.alloc (.cells #[.string (bs D.data), .slice A1 D.cache.length a1, .int .i64 D.fuse, .bool D.off, .slice A2 D.bad.length a2] 25)).alloc (.cells #[.slice B1 L.targets.length b1, .slice B2 L.data.length b2] 67)) 27 #[.int .i64 g, .int .i64 h]
   simp only [World.size_alloc] at y
   have yk := blk2 y
   have hB_4 := hB_2.alloc hB_2.size (.cells #[.int .i64 g, .int .i64 h] 27)
   have x_5 := x_3.alloc (.cells #[.int .i64 g, .int .i64 h] 27)
   have xk_5 := blk5 x_5
   have z_6 := z.alloc (.cells #[.int .i64 g, .int .i64 h] 27)
   have zk_6 := blk2 z_6
   have r := Blk.new (((w.alloc (.cells #[.string (bs D.data), .slice A1 D.cache.length a1, .int .i64 D.fuse, .bool D.off, .slice A2 D.bad.length a2] 25)).alloc (.cells #[.slice B1 L.targets.length b1, .slice B2 L.data.length b2] 67)).alloc (.cells #[.int .i64 g, .int .i64 h] 27)) 67 #[.slice B1 L.targets.length b1, .slice B2 L.data.length b2]
   simp only [World.size_alloc] at r
   have rk := blk2 r
   have hB_7 := hB_4.alloc hB_4.size (.cells #[.slice B1 L.targets.length b1, .slice B2 L.data.length b2] 67)
   have x_8 := x_5.alloc (.cells #[.slice B1 L.targets.length b1, .slice B2 L.data.length b2] 67)
   have xk_8 := blk5 x_8
   have z_9 := z_6.alloc (.cells #[.slice B1 L.targets.length b1, .slice B2 L.data.length b2] 67)
   have zk_9 := blk2 z_9
   have y_10 := y.alloc (.cells #[.slice B1 L.targets.length b1, .slice B2 L.data.length b2] 67)
   have yk_10 := blk2 y_10
   by_cases h1 : u < 0
   · have d1 : decide (u < 0) = true := decide_eq_true h1
     clear h1 hu
     go_enter Tryz.func71, Tryz.ntmps71
     have yy := rk
     go_wp2_with fail
     refine bodyPost_ret (v := .tuple #[pval L ⟨B1, b1⟩ ⟨B2, b2⟩, .int .i64 0, .int .i64 10]) (by simp [results, Tryz.results71, go_sem, yy]) rfl ?_
     rw [HE.out]
     exact ⟨⟨⟨B1, b1⟩, ⟨B2, b2⟩, rfl, HL.out _ hB_7, fun b hb ho => ho⟩, hB_7⟩
   · have d1 : decide (u < 0) = false := decide_eq_false h1
     have d2 : decide (g ≤ u) = true := decide_eq_true (by omega)
     clear h1 hu
     go_enter Tryz.func71, Tryz.ntmps71
     have yy := rk
     go_wp2_with fail
     refine bodyPost_ret (v := .tuple #[pval L ⟨B1, b1⟩ ⟨B2, b2⟩, .int .i64 0, .int .i64 10]) (by simp [results, Tryz.results71, go_sem, yy]) rfl ?_
     rw [HE.out]
     exact ⟨⟨⟨B1, b1⟩, ⟨B2, b2⟩, rfl, HL.out _ hB_7, fun b hb ho => ho⟩, hB_7⟩
 obtain ⟨u, rfl⟩ := Int.eq_ofNat_of_zero_le (show 0 ≤ u by omega)
 have hget := fun (W : World) (hb : Below w.heap.size w W) => r10_get D L p q p' q' W (hD.below hb) (hL.below hb) hf hfl
 have hg1 := fun (l : Int) (W : World) (hb : Below w.heap.size w W) => t11_get D L p q p' q' W (hD.below hb) (hL.below hb) hf hfl l ((u : Int) / 16)
 have hc := fun (k : Int) (W : World) (hb : Below w.heap.size w W) => r8_get D L p q p' q' W (hD.below hb) (hL.below hb) hf hfl k
 have hfr0 := fun (l f : Int) (hlf : f = -1 ∨ 0 ≤ f) (W : World) (hb : Below w.heap.size w W) => r12_fresh D L p q p' q' W (hD.below hb) (hL.below hb) hf hfl g h hh l ((u : Int) / 16) f hlf
 have Hw := hid (show Pn.ptOwn D L g h u = _ by rw [Pn.ptOwn, if_neg hu])
 have hsm := fun l : Int => Pn.tabGet_small D L l ((u : Int) / 16)
 have g0 : (0 : Int) ≤ (u : Int) := by omega
 have g1 : (u : Int) < 64 := by omega
 have d1 : decide ((u : Int) < 0) = false := decide_eq_false (by omega)
 have d2 : decide (g ≤ (u : Int)) = false := decide_eq_false (by omega)
 clear hD hL hf hfl hu
 generalize Pn.rtGet D L = E at *
 obtain ⟨⟨l, n⟩, er⟩ := E
 simp only at hget Hw
 have hg2 := hg1 l
 have hfr := hfr0 l
 have hsm2 := hsm l
 clear hg1 hfr0 hsm
 generalize Pn.tabGet D L l ((u : Int) / 16) = E at *
 obtain ⟨⟨K, B⟩, e2⟩ := E
 simp only at hg2 Hw hsm2
 have hc2 := hc B
 clear hc
 generalize Pn.cntGet D L B = E at *
 obtain ⟨c, e3⟩ := E
 simp only at hc2 Hw
 obtain ⟨s1, s2, s3, s4⟩ := hsm2
 obtain ⟨A1, a1⟩ := p
 obtain ⟨A2, a2⟩ := q
 obtain ⟨B1, b1⟩ := p'
 obtain ⟨B2, b2⟩ := q'
 have hB := Below.refl w.heap.size w
 have x := Blk.new w 25 #[.string (bs D.data), .slice A1 D.cache.length a1, .int .i64 D.fuse, .bool D.off, .slice A2 D.bad.length a2]
 have xk := blk5 x
 have hB_1 := hB.alloc hB.size (.cells #[.string (bs D.data), .slice A1 D.cache.length a1, .int .i64 D.fuse, .bool D.off, .slice A2 D.bad.length a2] 25)
 have z := Blk.new (w.alloc (.cells #[.string (bs D.data), .slice A1 D.cache.length a1, .int .i64 D.fuse, .bool D.off, .slice A2 D.bad.length a2] 25)) 67 #[.slice B1 L.targets.length b1, .slice B2 L.data.length b2]
 simp only [World.size_alloc] at z
 have zk := blk2 z
 have hB_2 := hB_1.alloc hB_1.size (.cells #[.slice B1 L.targets.length b1, .slice B2 L.data.length b2] 67)
 have x_3 := x.alloc (.cells #[.slice B1 L.targets.length b1, .slice B2 L.data.length b2] 67)
 have xk_3 := blk5 x_3
 have y := Blk.new ((w.alloc (.cells #[.string (bs D.data), .slice A1 D.cache.length a1, .int .i64 D.fuse, .bool D.off, .slice A2 D.bad.length a2] 25)).alloc (.cells #[.slice B1 L.targets.length b1, .slice B2 L.data.length b2] 67)) 27 #[.int .i64 g, .int .i64 h]
 simp only [World.size_alloc] at y
 have yk := blk2 y
 have hB_4 := hB_2.alloc hB_2.size (.cells #[.int .i64 g, .int .i64 h] 27)
 have x_5 := x_3.alloc (.cells #[.int .i64 g, .int .i64 h] 27)
 have xk_5 := blk5 x_5
 have z_6 := z.alloc (.cells #[.int .i64 g, .int .i64 h] 27)
 have zk_6 := blk2 z_6
 have r := Blk.new (((w.alloc (.cells #[.string (bs D.data), .slice A1 D.cache.length a1, .int .i64 D.fuse, .bool D.off, .slice A2 D.bad.length a2] 25)).alloc (.cells #[.slice B1 L.targets.length b1, .slice B2 L.data.length b2] 67)).alloc (.cells #[.int .i64 g, .int .i64 h] 27)) 67 #[.slice none 0 0, .slice none 0 0]
 simp only [World.size_alloc] at r
 have rk := blk2 r
 have rkf := r.frozen
 have hB_7 := hB_4.alloc hB_4.size (.cells #[.slice none 0 0, .slice none 0 0] 67)
 have x_8 := x_5.alloc (.cells #[.slice none 0 0, .slice none 0 0] 67)
 have xk_8 := blk5 x_8
 have z_9 := z_6.alloc (.cells #[.slice none 0 0, .slice none 0 0] 67)
 have zk_9 := blk2 z_9
 have y_10 := y.alloc (.cells #[.slice none 0 0, .slice none 0 0] 67)
 have yk_10 := blk2 y_10
 go_enter Tryz.func71, Tryz.ntmps71
 go_wp2_with fail
 go_at_call 20
 refine ((hget _ hB_7)).mono ?_
 rintro e w1 ⟨rfl, hb1⟩
 replace hB := bt hB_7 hb1
 replace x := x_8.below hb1 x_8.lt
 replace xk := blk5 x
 replace z := z_9.below hb1 z_9.lt
 replace zk := blk2 z
 replace y := y_10.below hb1 y_10.lt
 replace yk := blk2 y
 replace r := r.below hb1 r.lt
 replace rk := blk2 r
 replace rkf := r.frozen
 clear hB_1 hB_2 xk_3 x_3 hB_4 xk_5 x_5 zk_6 z_6 hB_7 xk_8 x_8 zk_9 z_9 yk_10 y_10
 have rp := r
 have Bp := hB
 have hs1 := (hB).size
 have ro := Blk.new w1 62 #[.int .i64 l, .int .u32 n]
 have rok := blk2 ro
 have hB_11 := hB.alloc hB.size (.cells #[.int .i64 l, .int .u32 n] 62)
 have x_12 := x.alloc (.cells #[.int .i64 l, .int .u32 n] 62)
 have xk_12 := blk5 x_12
 have z_13 := z.alloc (.cells #[.int .i64 l, .int .u32 n] 62)
 have zk_13 := blk2 z_13
 have y_14 := y.alloc (.cells #[.int .i64 l, .int .u32 n] 62)
 have yk_14 := blk2 y_14
 have r_15 := r.alloc (.cells #[.int .i64 l, .int .u32 n] 62)
 have rk_15 := blk2 r_15
 have rkf_15 := r_15.frozen
 by_cases h1 : er = 0
 rotate_left
 · have n1 : (er != 0) = true := by simpa using h1
   have HE := hid (Hw.out.trans (if_pos h1))
   clear h1
   have yy := blk2 (blk_set2 r_15 (.slice B1 L.targets.length b1) (.slice B2 L.data.length b2))
   have qq := ((r_15).set 0 (.slice B1 L.targets.length b1)).frozen
   have b9 := below_set2 hB_11 (g := w.heap.size + 1 + 1 + 1) (by omega) (.slice B1 L.targets.length b1) (.slice B2 L.data.length b2)
   have i9 := (HL.out _ hB_11).off2 (oP (w.heap.size + 1 + 1 + 1) (by omega)) (.slice B1 L.targets.length b1) (.slice B2 L.data.length b2)
   go_wp2_with fail
   refine bodyPost_ret (v := .tuple #[pval L ⟨B1, b1⟩ ⟨B2, b2⟩, .int .i64 0, .int .i64 er]) (by simp [results, Tryz.results71, go_sem, yy]) rfl ?_
   rw [HE.out]
   exact ⟨⟨⟨B1, b1⟩, ⟨B2, b2⟩, rfl, i9, fun b hb ho => ho⟩, b9⟩
 have n1 : (er != 0) = false := by simp [h1]
 replace Hw := hid (Hw.out.trans (if_neg (by simpa using h1)))
 clear h1 rp Bp
 go_wp2_with fail
 go_at_call 62
 refine ((hg2 _ hB_11)).mono ?_
 rintro e w2 ⟨rfl, hb2⟩
 replace hB := bt hB_11 hb2
 replace x := x_12.below hb2 x_12.lt
 replace xk := blk5 x
 replace z := z_13.below hb2 z_13.lt
 replace zk := blk2 z
 replace y := y_14.below hb2 y_14.lt
 replace yk := blk2 y
 replace r := r_15.below hb2 r_15.lt
 replace rk := blk2 r
 replace rkf := r.frozen
 replace ro := ro.below hb2 ro.lt
 replace rok := blk2 ro
 clear hB_11 xk_12 x_12 zk_13 z_13 yk_14 y_14 rk_15 rkf_15 r_15
 have rp := r
 have Bp := hB
 have hs2 := (hB).size
 have Lw2 := hid (r).lt
 have en := Blk.new w2 73 #[.int .i64 K, .int .i64 B]
 have enk := blk2 en
 have hB_16 := hB.alloc hB.size (.cells #[.int .i64 K, .int .i64 B] 73)
 have x_17 := x.alloc (.cells #[.int .i64 K, .int .i64 B] 73)
 have xk_17 := blk5 x_17
 have z_18 := z.alloc (.cells #[.int .i64 K, .int .i64 B] 73)
 have zk_18 := blk2 z_18
 have y_19 := y.alloc (.cells #[.int .i64 K, .int .i64 B] 73)
 have yk_19 := blk2 y_19
 have r_20 := r.alloc (.cells #[.int .i64 K, .int .i64 B] 73)
 have rk_20 := blk2 r_20
 have rkf_20 := r_20.frozen
 have ro_21 := ro.alloc (.cells #[.int .i64 K, .int .i64 B] 73)
 have rok_21 := blk2 ro_21
 by_cases h2 : e2 = 0
 rotate_left
 · have n2 : (e2 != 0) = true := by simpa using h2
   have HE := hid (Hw.out.trans (if_pos h2))
   clear h2
   have yy := blk2 (blk_set2 r_20 (.slice B1 L.targets.length b1) (.slice B2 L.data.length b2))
   have qq := ((r_20).set 0 (.slice B1 L.targets.length b1)).frozen
   have b9 := below_set2 hB_16 (g := w.heap.size + 1 + 1 + 1) (by omega) (.slice B1 L.targets.length b1) (.slice B2 L.data.length b2)
   have i9 := (HL.out _ hB_16).off2 (oP (w.heap.size + 1 + 1 + 1) (by omega)) (.slice B1 L.targets.length b1) (.slice B2 L.data.length b2)
   go_wp2_with fail
   refine bodyPost_ret (v := .tuple #[pval L ⟨B1, b1⟩ ⟨B2, b2⟩, .int .i64 0, .int .i64 e2]) (by simp [results, Tryz.results71, go_sem, yy]) rfl ?_
   rw [HE.out]
   exact ⟨⟨⟨B1, b1⟩, ⟨B2, b2⟩, rfl, i9, fun b hb ho => ho⟩, b9⟩
 have n2 : (e2 != 0) = false := by simp [h2]
 replace Hw := hid (Hw.out.trans (if_neg (by simpa using h2)))
 clear h2
 by_cases hK2 : K = 2
 · subst hK2
   have HE := hid (Hw.out.trans (if_pos rfl))
   clear Hw
   have yy := blk2 (blk_set2 r_20 (.slice B1 L.targets.length b1) (.slice B2 L.data.length b2))
   have qq := ((r_20).set 0 (.slice B1 L.targets.length b1)).frozen
   have b9 := below_set2 hB_16 (g := w.heap.size + 1 + 1 + 1) (by omega) (.slice B1 L.targets.length b1) (.slice B2 L.data.length b2)
   have i9 := (HL.out _ hB_16).off2 (oP (w.heap.size + 1 + 1 + 1) (by omega)) (.slice B1 L.targets.length b1) (.slice B2 L.data.length b2)
   go_wp2_with fail
   refine bodyPost_ret (v := .tuple #[pval L ⟨B1, b1⟩ ⟨B2, b2⟩, .int .i64 0, .int .i64 14]) (by simp [results, Tryz.results71, go_sem, yy]) rfl ?_
   rw [HE.out]
   exact ⟨⟨⟨B1, b1⟩, ⟨B2, b2⟩, rfl, i9, fun b hb ho => ho⟩, b9⟩
 replace Hw := hid (Hw.out.trans (if_neg hK2))
 have nK2 : (K == 2) = false := by simpa using hK2
 clear rp Bp hK2
 by_cases hK0 : K = 0
 · subst hK0
   have HE := hid (Hw.out.trans (if_pos rfl))
   clear Hw hc2
   have hs4 := (hB_16).size
   have lr4 := (r_20).lt
   go_wp2_with fail
   go_at_call 88
   refine ((hfr (-1) (by omega) _ hB_16)).mono ?_
   rintro e w4 ⟨⟨p3, q3, rfl, i3, o3⟩, hb4⟩
   replace hB := bt hB_16 hb4
   replace x := x_17.below hb4 x_17.lt
   replace xk := blk5 x
   replace z := z_18.below hb4 z_18.lt
   replace zk := blk2 z
   replace y := y_19.below hb4 y_19.lt
   replace yk := blk2 y
   replace r := r_20.below hb4 r_20.lt
   replace rk := blk2 r
   replace rkf := r.frozen
   replace ro := ro_21.below hb4 ro_21.lt
   replace rok := blk2 ro
   replace en := en.below hb4 en.lt
   replace enk := blk2 en
   clear hB_16 xk_17 x_17 zk_18 z_18 yk_19 y_19 rk_20 rkf_20 r_20 rok_21 ro_21
   have or3 := o3 _ lr4 (oP (w.heap.size + 1 + 1 + 1) (by omega))
   have O3 : ∀ b, b < w.heap.size → PnOff b L ⟨B1, b1⟩ ⟨B2, b2⟩ → PnOff b (Pn.ptFresh D L h l ((u : Int) / 16) (-1)).1 p3 q3 := fun b hb ho => o3 b (Nat.lt_of_lt_of_le hb hs4) ho
   clear o3
   generalize Pn.ptFresh D L h l ((u : Int) / 16) (-1) = S at *
   have yy := blk2 (blk_set2 r (.slice p3.a S.1.targets.length p3.c) (.slice q3.a S.1.data.length q3.c))
   have qq := ((r).set 0 (.slice p3.a S.1.targets.length p3.c)).frozen
   have b9 := below_set2 hB (g := w.heap.size + 1 + 1 + 1) (by omega) (.slice p3.a S.1.targets.length p3.c) (.slice q3.a S.1.data.length q3.c)
   have i9 := i3.off2 or3 (.slice p3.a S.1.targets.length p3.c) (.slice q3.a S.1.data.length q3.c)
   go_wp2_with fail
   refine bodyPost_ret (v := .tuple #[pval S.1 p3 q3, .int .i64 S.2.1, .int .i64 S.2.2]) (by simp [results, Tryz.results71, go_sem, yy]) rfl ?_
   rw [HE.out]
   exact ⟨⟨p3, q3, rfl, i9, O3⟩, b9⟩
 replace Hw := hid (Hw.out.trans (if_neg hK0))
 have nK0 : (K == 0) = false := by simpa using hK0
 clear hK0
 go_wp2_with fail
 go_at_call 33
 refine ((hc2 _ hB_16)).mono ?_
 rintro e w3 ⟨rfl, hb3⟩
 replace hB := bt hB_16 hb3
 replace x := x_17.below hb3 x_17.lt
 replace xk := blk5 x
 replace z := z_18.below hb3 z_18.lt
 replace zk := blk2 z
 replace y := y_19.below hb3 y_19.lt
 replace yk := blk2 y
 replace r := r_20.below hb3 r_20.lt
 replace rk := blk2 r
 replace rkf := r.frozen
 replace ro := ro_21.below hb3 ro_21.lt
 replace rok := blk2 ro
 replace en := en.below hb3 en.lt
 replace enk := blk2 en
 clear hB_16 xk_17 x_17 zk_18 z_18 yk_19 y_19 rk_20 rkf_20 r_20 rok_21 ro_21
 have hs3 := (hB).size
 by_cases h3 : e3 = 0
 rotate_left
 · have n3 : (e3 != 0) = true := by simpa using h3
   have HE := hid (Hw.out.trans (if_pos h3))
   clear h3
   have yy := blk2 (blk_set2 r (.slice B1 L.targets.length b1) (.slice B2 L.data.length b2))
   have qq := ((r).set 0 (.slice B1 L.targets.length b1)).frozen
   have b9 := below_set2 hB (g := w.heap.size + 1 + 1 + 1) (by omega) (.slice B1 L.targets.length b1) (.slice B2 L.data.length b2)
   have i9 := (HL.out _ hB).off2 (oP (w.heap.size + 1 + 1 + 1) (by omega)) (.slice B1 L.targets.length b1) (.slice B2 L.data.length b2)
   go_wp2_with fail
   refine bodyPost_ret (v := .tuple #[pval L ⟨B1, b1⟩ ⟨B2, b2⟩, .int .i64 0, .int .i64 e3]) (by simp [results, Tryz.results71, go_sem, yy]) rfl ?_
   rw [HE.out]
   exact ⟨⟨⟨B1, b1⟩, ⟨B2, b2⟩, rfl, i9, fun b hb ho => ho⟩, b9⟩
 have n3 : (e3 != 0) = false := by simp [h3]
 replace Hw := hid (Hw.out.trans (if_neg (by simpa using h3)))
 clear h3
 by_cases h4 : c ≤ 1
 · have d4 : decide (c ≤ 1) = true := decide_eq_true h4
   have HE := hid (Hw.out.trans (if_pos h4))
   clear h4
   have ne1 : ¬ w2.heap.size = w.heap.size + 1 + 1 + 1 := by have := Lw2.out; omega
   have ne2 : ¬ w.heap.size + 1 + 1 + 1 = w2.heap.size := by have := Lw2.out; omega
   have yy := blk2 (blk_set2 r (.slice B1 L.targets.length b1) (.slice B2 L.data.length b2))
   have qq := ((r).set 0 (.slice B1 L.targets.length b1)).frozen
   have b9 := below_set2 hB (g := w.heap.size + 1 + 1 + 1) (by omega) (.slice B1 L.targets.length b1) (.slice B2 L.data.length b2)
   have i9 := (HL.out _ hB).off2 (oP (w.heap.size + 1 + 1 + 1) (by omega)) (.slice B1 L.targets.length b1) (.slice B2 L.data.length b2)
   go_wp2_with fail
   go_region
   go_wp2_with fail
   refine bodyPost_ret (v := .tuple #[pval L ⟨B1, b1⟩ ⟨B2, b2⟩, .int .i64 B, .int .i64 0]) (by simp [results, Tryz.results71, go_sem, yy]) rfl ?_
   rw [HE.out]
   exact ⟨⟨⟨B1, b1⟩, ⟨B2, b2⟩, rfl, i9.below (Below.refl _ _).drew, fun b hb ho => ho⟩, b9.drew⟩
 have d4 : decide (c ≤ 1) = false := decide_eq_false h4
 have HE := hid (Hw.out.trans (if_neg h4))
 clear h4 Hw
 have hs5 := (hB).size
 have lr5 := (r).lt
 go_wp2_with fail
 go_at_call 88
 refine ((hfr B (by omega) _ hB)).mono ?_
 rintro e w5 ⟨⟨p3, q3, rfl, i3, o3⟩, hb5⟩
 replace hB := bt hB hb5
 replace x := x.below hb5 x.lt
 replace xk := blk5 x
 replace z := z.below hb5 z.lt
 replace zk := blk2 z
 replace y := y.below hb5 y.lt
 replace yk := blk2 y
 replace r := r.below hb5 r.lt
 replace rk := blk2 r
 replace rkf := r.frozen
 replace ro := ro.below hb5 ro.lt
 replace rok := blk2 ro
 replace en := en.below hb5 en.lt
 replace enk := blk2 en
 have or3 := o3 _ lr5 (oP (w.heap.size + 1 + 1 + 1) (by omega))
 have O3 : ∀ b, b < w.heap.size → PnOff b L ⟨B1, b1⟩ ⟨B2, b2⟩ → PnOff b (Pn.ptFresh D L h l ((u : Int) / 16) B).1 p3 q3 := fun b hb ho => o3 b (Nat.lt_of_lt_of_le hb hs5) ho
 clear o3
 generalize Pn.ptFresh D L h l ((u : Int) / 16) B = S at *
 have yy := blk2 (blk_set2 r (.slice p3.a S.1.targets.length p3.c) (.slice q3.a S.1.data.length q3.c))
 have qq := ((r).set 0 (.slice p3.a S.1.targets.length p3.c)).frozen
 have b9 := below_set2 hB (g := w.heap.size + 1 + 1 + 1) (by omega) (.slice p3.a S.1.targets.length p3.c) (.slice q3.a S.1.data.length q3.c)
 have i9 := i3.off2 or3 (.slice p3.a S.1.targets.length p3.c) (.slice q3.a S.1.data.length q3.c)
 go_wp2_with fail
 refine bodyPost_ret (v := .tuple #[pval S.1 p3 q3, .int .i64 S.2.1, .int .i64 S.2.2]) (by simp [results, Tryz.results71, go_sem, yy]) rfl ?_
 rw [HE.out]
 exact ⟨⟨p3, q3, rfl, i9, O3⟩, b9⟩
set_option maxRecDepth 100000 in
set_option maxHeartbeats 2000000 in
theorem r12_point (D : Dk) (L : Pn) (p q p' q' : Pl) (w : World) (hD : IsDk w D p q) (hL : IsPn w L p' q') (hf : D.fit = true) (hfl : L.Fit) (g : Int) (h : Nat) (hh : h ≤ 256) (hg64 : g ≤ 64) (u K B : Int) (hu64 : -9223372036854775808 ≤ u ∧ u ≤ 9223372036854775807) :
 Calls Tryz.prog 39 #[dval D p q, pval L p' q', gval g h, .int .i64 u, eval2 K B] w fun e w' => RetPn w.heap.size L p' q' (Pn.ptPoint D L g h u K B) e w' ∧ Below w.heap.size w w' := by
 have HL := hid (fun (W : World) (hb : Below w.heap.size w W) => hL.below hb)
 have oP : ∀ B, w.heap.size ≤ B → PnOff B L p' q' := fun B hB => hL.apart hB
 have hown := fun (W : World) (hb : Below w.heap.size w W) => r12_own D L p q p' q' W (hD.below hb) (hL.below hb) hf hfl g h hh hg64 u
 have hset0 := fun (t : Int) (W : World) (hb : Below w.heap.size w W) (Y : Pn) (p1 q1 : Pl) (hY : IsPn W Y p1 q1) (hYf : Y.Fit) => t11_set D Y p q p1 q1 W (hD.below hb) hY hf hYf t (u % 16) K B
 have hget0 := fun (t : Int) (W : World) (hb : Below w.heap.size w W) (Y : Pn) (p1 q1 : Pl) (hY : IsPn W Y p1 q1) (hYf : Y.Fit) => t11_get D Y p q p1 q1 W (hD.below hb) hY hf hYf t (u % 16)
 have hadd := fun (W : World) (hb : Below w.heap.size w W) (Y : Pn) (p1 q1 : Pl) (hY : IsPn W Y p1 q1) (hYf : Y.Fit) (k : Int) => r8_add D Y p q p1 q1 W (hD.below hb) hY hf hYf k (-1) (by decide)
 have HAf := hid (fun (Y : Pn) (hY : Y.Fit) (k : Int) => Pn.cntAdd_fit hf hY k (-1))
 have hTf := Pn.ptOwn_fit hf hfl g h u
 have Hout := hid (fun hu : u < 0 => Pn.ptOwn_out (D := D) (L := L) (g := g) (h := h) (.inl hu))
 have Hw := hid (show Pn.ptPoint D L g h u K B = _ from rfl)
 have Hno := hid (@Pn.ptPoint_own D L g h u K B)
 have Hyes := hid (@Pn.ptPoint_in D L g h u K B)
 clear hD hL hf hfl Hw
 obtain ⟨A1, a1⟩ := p
 obtain ⟨A2, a2⟩ := q
 obtain ⟨B1, b1⟩ := p'
 obtain ⟨B2, b2⟩ := q'
 have hB := Below.refl w.heap.size w
 have x := Blk.new w 25 #[.string (bs D.data), .slice A1 D.cache.length a1, .int .i64 D.fuse, .bool D.off, .slice A2 D.bad.length a2]
 have xk := blk5 x
 have hB_1 := hB.alloc hB.size (.cells #[.string (bs D.data), .slice A1 D.cache.length a1, .int .i64 D.fuse, .bool D.off, .slice A2 D.bad.length a2] 25)
 have z := Blk.new (w.alloc (.cells #[.string (bs D.data), .slice A1 D.cache.length a1, .int .i64 D.fuse, .bool D.off, .slice A2 D.bad.length a2] 25)) 67 #[.slice B1 L.targets.length b1, .slice B2 L.data.length b2]
 simp only [World.size_alloc] at z
 have zk := blk2 z
 have hB_2 := hB_1.alloc hB_1.size (.cells #[.slice B1 L.targets.length b1, .slice B2 L.data.length b2] 67)
 have x_3 := x.alloc (.cells #[.slice B1 L.targets.length b1, .slice B2 L.data.length b2] 67)
 have xk_3 := blk5 x_3
 have y := Blk.new ((w.alloc (.cells #[.string (bs D.data), .slice A1 D.cache.length a1, .int .i64 D.fuse, .bool D.off, .slice A2 D.bad.length a2] 25)).alloc (.cells #[.slice B1 L.targets.length b1, .slice B2 L.data.length b2] 67)) 27 #[.int .i64 g, .int .i64 h]
 simp only [World.size_alloc] at y
 have yk := blk2 y
 have hB_4 := hB_2.alloc hB_2.size (.cells #[.int .i64 g, .int .i64 h] 27)
 have x_5 := x_3.alloc (.cells #[.int .i64 g, .int .i64 h] 27)
 have xk_5 := blk5 x_5
 have z_6 := z.alloc (.cells #[.int .i64 g, .int .i64 h] 27)
 have zk_6 := blk2 z_6
 have xe := Blk.new (((w.alloc (.cells #[.string (bs D.data), .slice A1 D.cache.length a1, .int .i64 D.fuse, .bool D.off, .slice A2 D.bad.length a2] 25)).alloc (.cells #[.slice B1 L.targets.length b1, .slice B2 L.data.length b2] 67)).alloc (.cells #[.int .i64 g, .int .i64 h] 27)) 73 #[.int .i64 K, .int .i64 B]
 simp only [World.size_alloc] at xe
 have xek := blk2 xe
 have hB_7 := hB_4.alloc hB_4.size (.cells #[.int .i64 K, .int .i64 B] 73)
 have x_8 := x_5.alloc (.cells #[.int .i64 K, .int .i64 B] 73)
 have xk_8 := blk5 x_8
 have z_9 := z_6.alloc (.cells #[.int .i64 K, .int .i64 B] 73)
 have zk_9 := blk2 z_9
 have y_10 := y.alloc (.cells #[.int .i64 K, .int .i64 B] 73)
 have yk_10 := blk2 y_10
 have r := Blk.new ((((w.alloc (.cells #[.string (bs D.data), .slice A1 D.cache.length a1, .int .i64 D.fuse, .bool D.off, .slice A2 D.bad.length a2] 25)).alloc (.cells #[.slice B1 L.targets.length b1, .slice B2 L.data.length b2] 67)).alloc (.cells #[.int .i64 g, .int .i64 h] 27)).alloc (.cells #[.int .i64 K, .int .i64 B] 73)) 67 #[.slice none 0 0, .slice none 0 0]
 simp only [World.size_alloc] at r
 have rk := blk2 r
 have rkf := r.frozen
 have hB_11 := hB_7.alloc hB_7.size (.cells #[.slice none 0 0, .slice none 0 0] 67)
 have x_12 := x_8.alloc (.cells #[.slice none 0 0, .slice none 0 0] 67)
 have xk_12 := blk5 x_12
 have z_13 := z_9.alloc (.cells #[.slice none 0 0, .slice none 0 0] 67)
 have zk_13 := blk2 z_13
 have y_14 := y_10.alloc (.cells #[.slice none 0 0, .slice none 0 0] 67)
 have yk_14 := blk2 y_14
 have xe_15 := xe.alloc (.cells #[.slice none 0 0, .slice none 0 0] 67)
 have xek_15 := blk2 xe_15
 go_enter Tryz.func39, Tryz.ntmps39
 have lr1 := (r).lt
 have hs1 := (hB_11).size
 go_wp2_with fail
 go_at_call 71
 refine ((hown _ hB_11)).mono ?_
 rintro e w1 ⟨⟨p1, q1, rfl, i1, o1⟩, hb1⟩
 replace hB := bt hB_11 hb1
 replace x := x_12.below hb1 x_12.lt
 replace xk := blk5 x
 replace z := z_13.below hb1 z_13.lt
 replace zk := blk2 z
 replace y := y_14.below hb1 y_14.lt
 replace yk := blk2 y
 replace xe := xe_15.below hb1 xe_15.lt
 replace xek := blk2 xe
 replace r := r.below hb1 r.lt
 replace rk := blk2 r
 replace rkf := r.frozen
 clear hB_1 hB_2 xk_3 x_3 hB_4 xk_5 x_5 zk_6 z_6 hB_7 xk_8 x_8 zk_9 z_9 yk_10 y_10 hB_11 xk_12 x_12 zk_13 z_13 yk_14 y_14 xek_15 xe_15
 have or1 := o1 _ lr1 (oP (w.heap.size + 1 + 1 + 1 + 1) (by omega))
 have O1 : ∀ b, b < w.heap.size → PnOff b L ⟨B1, b1⟩ ⟨B2, b2⟩ → PnOff b (Pn.ptOwn D L g h u).1 p1 q1 := fun b hb ho => o1 b (Nat.lt_of_lt_of_le hb hs1) ho
 have oq1 := i1.apart (Nat.le_refl w1.heap.size)
 have hs2 := (hB).size
 have lr2 := (r).lt
 clear o1 hown
 obtain ⟨⟨T, t, er⟩, hT⟩ : ∃ x, Pn.ptOwn D L g h u = x := ⟨_, rfl⟩
 rw [hT] at i1 or1 O1 oq1 hTf Hno Hyes Hout
 rw [hT]
 clear hT
 simp only at i1 or1 O1 oq1 hTf Hno Hyes
 have hset1 := hset0 t
 have hget1 := hget0 t
 clear hset0 hget0
 have rp := r
 have Bp := hB
 have qb := Blk.new w1 67 #[.slice p1.a T.targets.length p1.c, .slice q1.a T.data.length q1.c]
 have qbk := blk2 qb
 have qbkf := qb.frozen
 have hB_16 := hB.alloc hB.size (.cells #[.slice p1.a T.targets.length p1.c, .slice q1.a T.data.length q1.c] 67)
 have x_17 := x.alloc (.cells #[.slice p1.a T.targets.length p1.c, .slice q1.a T.data.length q1.c] 67)
 have xk_17 := blk5 x_17
 have z_18 := z.alloc (.cells #[.slice p1.a T.targets.length p1.c, .slice q1.a T.data.length q1.c] 67)
 have zk_18 := blk2 z_18
 have y_19 := y.alloc (.cells #[.slice p1.a T.targets.length p1.c, .slice q1.a T.data.length q1.c] 67)
 have yk_19 := blk2 y_19
 have xe_20 := xe.alloc (.cells #[.slice p1.a T.targets.length p1.c, .slice q1.a T.data.length q1.c] 67)
 have xek_20 := blk2 xe_20
 have r_21 := r.alloc (.cells #[.slice p1.a T.targets.length p1.c, .slice q1.a T.data.length q1.c] 67)
 have rk_21 := blk2 r_21
 have rkf_21 := r_21.frozen
 have i1_22 := i1.below ((Below.refl _ _).alloc (Nat.le_refl _) (.cells #[.slice p1.a T.targets.length p1.c, .slice q1.a T.data.length q1.c] 67))
 by_cases h1 : er = 0
 rotate_left
 · have n1 : (er != 0) = true := by simpa using h1
   have HE := hid (Hno.out h1)
   clear h1
   have yy := blk2 ((blk_set2 rp (.slice B1 L.targets.length b1) (.slice B2 L.data.length b2)).alloc (.cells #[.slice p1.a T.targets.length p1.c, .slice q1.a T.data.length q1.c] 67))
   have qq := (rp.set 0 (.slice B1 L.targets.length b1)).frozen
   have rpf := rp.frozen
   have rpk := blk2 rp
   have b8 := below_set2 Bp (g := w.heap.size + 1 + 1 + 1 + 1) (by omega) (.slice B1 L.targets.length b1) (.slice B2 L.data.length b2)
   have b9 := b8.alloc b8.size (.cells #[.slice p1.a T.targets.length p1.c, .slice q1.a T.data.length q1.c] 67)
   have i9 := ((HL.out _ Bp).off2 (oP (w.heap.size + 1 + 1 + 1 + 1) (by omega)) (.slice B1 L.targets.length b1) (.slice B2 L.data.length b2)).below ((Below.refl _ _).alloc (Nat.le_refl _) (.cells #[.slice p1.a T.targets.length p1.c, .slice q1.a T.data.length q1.c] 67))
   go_wp2_with fail
   refine bodyPost_ret (v := .tuple #[pval L ⟨B1, b1⟩ ⟨B2, b2⟩, .int .i64 er]) (by simp [results, Tryz.results39, go_sem, yy]) rfl ?_
   rw [HE.out]
   exact ⟨⟨⟨B1, b1⟩, ⟨B2, b2⟩, rfl, i9, fun b hb ho => ho⟩, b9⟩
 have n1 : (er != 0) = false := by simp [h1]
 have u0 : 0 ≤ u := by
  rcases Int.lt_or_le u 0 with hlt | hle
  · have h9 : er = 10 := congrArg (fun x : Pn × Int × Int => x.2.2) (Hout.out hlt)
    exact absurd (h1.symm.trans h9) (by decide)
  · exact hle
 obtain ⟨u, rfl⟩ := Int.eq_ofNat_of_zero_le u0
 have Hw := hid (Hyes.out h1)
 have HE0 := hid (@Pn.tabGet_err D T t ((u : Int) % 16))
 clear h1 rp Bp Hno Hyes Hout u0
 have hget := fun (W : World) (hb : Below w.heap.size w W) (hY : IsPn W T p1 q1) => hget1 W hb T p1 q1 hY hTf
 have hset := hset1
 clear hget1 hset1
 have Hps := hid (show Pn.putSteps D T t u K B = Pn.step (if (Pn.tabGet D T t ((u : Int) % 16)).1.1 = 1 then Pn.cntAdd D T (Pn.tabGet D T t ((u : Int) % 16)).1.2 (-1) else (T, 0)) fun Y => Pn.tabSet D Y t ((u : Int) % 16) K B from rfl)
 generalize Pn.tabGet D T t ((u : Int) % 16) = E at *
 obtain ⟨⟨K2, A3⟩, e2⟩ := E
 simp only at hget Hw HE0 Hps
 have lq2 := (qb).lt
 go_wp2_with fail
 go_at_call 62
 refine ((hget _ hB_16 i1_22)).mono ?_
 rintro e w2 ⟨rfl, hb2⟩
 replace hB := bt hB_16 hb2
 replace x := x_17.below hb2 x_17.lt
 replace xk := blk5 x
 replace z := z_18.below hb2 z_18.lt
 replace zk := blk2 z
 replace y := y_19.below hb2 y_19.lt
 replace yk := blk2 y
 replace xe := xe_20.below hb2 xe_20.lt
 replace xek := blk2 xe
 replace r := r_21.below hb2 r_21.lt
 replace rk := blk2 r
 replace rkf := r.frozen
 replace i1 := i1_22.below hb2
 replace qb := qb.below hb2 qb.lt
 replace qbk := blk2 qb
 replace qbkf := qb.frozen
 clear hB_16 xk_17 x_17 zk_18 z_18 yk_19 y_19 xek_20 xe_20 rk_21 rkf_21 r_21 i1_22
 have hs3 := (hB).size
 have nq : ¬ w2.heap.size = w1.heap.size := by have := (qb).lt; omega
 have en := Blk.new w2 73 #[.int .i64 K2, .int .i64 A3]
 have enk := blk2 en
 have hB_23 := hB.alloc hB.size (.cells #[.int .i64 K2, .int .i64 A3] 73)
 have x_24 := x.alloc (.cells #[.int .i64 K2, .int .i64 A3] 73)
 have xk_24 := blk5 x_24
 have z_25 := z.alloc (.cells #[.int .i64 K2, .int .i64 A3] 73)
 have zk_25 := blk2 z_25
 have y_26 := y.alloc (.cells #[.int .i64 K2, .int .i64 A3] 73)
 have yk_26 := blk2 y_26
 have xe_27 := xe.alloc (.cells #[.int .i64 K2, .int .i64 A3] 73)
 have xek_27 := blk2 xe_27
 have r_28 := r.alloc (.cells #[.int .i64 K2, .int .i64 A3] 73)
 have rk_28 := blk2 r_28
 have rkf_28 := r_28.frozen
 have i1_29 := i1.below ((Below.refl _ _).alloc (Nat.le_refl _) (.cells #[.int .i64 K2, .int .i64 A3] 73))
 have qb_30 := qb.alloc (.cells #[.int .i64 K2, .int .i64 A3] 73)
 have qbk_30 := blk2 qb_30
 have qbkf_30 := qb_30.frozen
 by_cases h2 : e2 = 0
 rotate_left
 · have n2 : (e2 != 0) = true := by simpa using h2
   have HE := hid (Hw.out.trans (if_pos h2))
   clear h2
   have yy := blk2 (blk_set2 r_28 (.slice B1 L.targets.length b1) (.slice B2 L.data.length b2))
   have qq := ((r_28).set 0 (.slice B1 L.targets.length b1)).frozen
   have b9 := below_set2 hB_23 (g := w.heap.size + 1 + 1 + 1 + 1) (by omega) (.slice B1 L.targets.length b1) (.slice B2 L.data.length b2)
   have i9 := (HL.out _ hB_23).off2 (oP (w.heap.size + 1 + 1 + 1 + 1) (by omega)) (.slice B1 L.targets.length b1) (.slice B2 L.data.length b2)
   go_wp2_with fail
   refine bodyPost_ret (v := .tuple #[pval L ⟨B1, b1⟩ ⟨B2, b2⟩, .int .i64 e2]) (by simp [results, Tryz.results39, go_sem, yy]) rfl ?_
   rw [HE.out]
   exact ⟨⟨⟨B1, b1⟩, ⟨B2, b2⟩, rfl, i9, fun b hb ho => ho⟩, b9⟩
 have n2 : (e2 != 0) = false := by simp [h2]
 replace Hw := hid (Hw.out.trans (if_neg (by simpa using h2)))
 clear h2
 by_cases hK : K2 = 1
 · subst hK
   have HS0 := hid (Hps.out.trans (by rw [if_pos rfl]))
   have lq2 := (qb_30).lt
   have lr2 := (r_28).lt
   have hs2 := (hB_23).size
   go_wp2_with fail
   go_at_call 52
   refine ((hadd _ hB_23 T p1 q1 i1_29 hTf A3)).mono ?_
   rintro e w2 ⟨⟨p2, q2, rfl, i2, o2⟩, hb2⟩
   replace hB := bt hB_23 hb2
   replace x := x_24.below hb2 x_24.lt
   replace xk := blk5 x
   replace z := z_25.below hb2 z_25.lt
   replace zk := blk2 z
   replace y := y_26.below hb2 y_26.lt
   replace yk := blk2 y
   replace xe := xe_27.below hb2 xe_27.lt
   replace xek := blk2 xe
   replace r := r_28.below hb2 r_28.lt
   replace rk := blk2 r
   replace rkf := r.frozen
   replace i1 := i1_29.below hb2
   replace qb := qb_30.below hb2 qb_30.lt
   replace qbk := blk2 qb
   replace qbkf := qb.frozen
   replace en := en.below hb2 en.lt
   replace enk := blk2 en
   clear hB_23 xk_24 x_24 zk_25 z_25 yk_26 y_26 xek_27 xe_27 rk_28 rkf_28 r_28 i1_29 qbk_30 qbkf_30 qb_30
   generalize hM2 : Pn.cntAdd D T A3 (-1) = U at *
   have or2 := o2 _ lr2 or1
   have oq2 := o2 _ lq2 oq1
   have O2 : ∀ b, b < w.heap.size → PnOff b L ⟨B1, b1⟩ ⟨B2, b2⟩ → PnOff b U.1 p2 q2 := fun b hb ho => o2 b (Nat.lt_of_lt_of_le hb hs2) (O1 b hb ho)
   have HM2 := hid hM2
   clear o2 hM2
   have hB_31 := below_set2 hB (g := w1.heap.size) (by omega) (.slice p2.a U.1.targets.length p2.c) (.slice q2.a U.1.data.length q2.c)
   have x_32 := blk_off2 x (g := w1.heap.size) (by omega) (.slice p2.a U.1.targets.length p2.c) (.slice q2.a U.1.data.length q2.c)
   have xk_32 := blk5 x_32
   have z_33 := blk_off2 z (g := w1.heap.size) (by omega) (.slice p2.a U.1.targets.length p2.c) (.slice q2.a U.1.data.length q2.c)
   have zk_33 := blk2 z_33
   have y_34 := blk_off2 y (g := w1.heap.size) (by omega) (.slice p2.a U.1.targets.length p2.c) (.slice q2.a U.1.data.length q2.c)
   have yk_34 := blk2 y_34
   have xe_35 := blk_off2 xe (g := w1.heap.size) (by omega) (.slice p2.a U.1.targets.length p2.c) (.slice q2.a U.1.data.length q2.c)
   have xek_35 := blk2 xe_35
   have r_36 := blk_off2 r (g := w1.heap.size) (by omega) (.slice p2.a U.1.targets.length p2.c) (.slice q2.a U.1.data.length q2.c)
   have rk_36 := blk2 r_36
   have rkf_36 := r_36.frozen
   have i1_37 := i1.off2 (g := w1.heap.size) (by first | assumption | omega) (.slice p2.a U.1.targets.length p2.c) (.slice q2.a U.1.data.length q2.c)
   have qb_38 := blk_set2 qb (.slice p2.a U.1.targets.length p2.c) (.slice q2.a U.1.data.length q2.c)
   have qbk_38 := blk2 qb_38
   have qbkf_38 := qb_38.frozen
   have en_39 := blk_off2 en (g := w1.heap.size) (by omega) (.slice p2.a U.1.targets.length p2.c) (.slice q2.a U.1.data.length q2.c)
   have enk_39 := blk2 en_39
   have i2_40 := i2.off2 (g := w1.heap.size) (by first | assumption | omega) (.slice p2.a U.1.targets.length p2.c) (.slice q2.a U.1.data.length q2.c)
   have U1f : U.1.Fit := by rw [← HM2.out]; exact HAf.out T hTf A3
   by_cases h3 : U.2 = 0
   rotate_left
   · have HE := hid (show Pn.ptPoint D L g h u K B = (L, U.2) by rw [Hw.out, HS0.out, Pn.step_err h3, if_pos h3])
     have n3 : (U.2 != 0) = true := by simpa using h3
     clear h3
     have yy := blk2 (blk_set2 r_36 (.slice B1 L.targets.length b1) (.slice B2 L.data.length b2))
     have qq := ((r_36).set 0 (.slice B1 L.targets.length b1)).frozen
     have b9 := below_set2 hB_31 (g := w.heap.size + 1 + 1 + 1 + 1) (by omega) (.slice B1 L.targets.length b1) (.slice B2 L.data.length b2)
     have i9 := (HL.out _ hB_31).off2 (oP (w.heap.size + 1 + 1 + 1 + 1) (by omega)) (.slice B1 L.targets.length b1) (.slice B2 L.data.length b2)
     go_wp2_with fail
     refine bodyPost_ret (v := .tuple #[pval L ⟨B1, b1⟩ ⟨B2, b2⟩, .int .i64 U.2]) (by simp [results, Tryz.results39, go_sem, yy]) rfl ?_
     rw [HE.out]
     exact ⟨⟨⟨B1, b1⟩, ⟨B2, b2⟩, rfl, i9, fun b hb ho => ho⟩, b9⟩
   have n3 : (U.2 != 0) = false := by simp [h3]
   replace HS0 := hid (HS0.out.trans (Pn.step_zero h3))
   clear h3
   have lq9 := (qb_38).lt
   have lr9 := (r_36).lt
   have hs9 := (hB_31).size
   go_wp2_with fail
   go_at_call 72
   refine ((hset _ hB_31 U.1 p2 q2 i2_40 U1f)).mono ?_
   rintro e w9 ⟨⟨p9, q9, rfl, i9, o9⟩, hb9⟩
   replace hB := bt hB_31 hb9
   replace x := x_32.below hb9 x_32.lt
   replace xk := blk5 x
   replace z := z_33.below hb9 z_33.lt
   replace zk := blk2 z
   replace y := y_34.below hb9 y_34.lt
   replace yk := blk2 y
   replace xe := xe_35.below hb9 xe_35.lt
   replace xek := blk2 xe
   replace r := r_36.below hb9 r_36.lt
   replace rk := blk2 r
   replace rkf := r.frozen
   replace i1 := i1_37.below hb9
   replace qb := qb_38.below hb9 qb_38.lt
   replace qbk := blk2 qb
   replace qbkf := qb.frozen
   replace en := en_39.below hb9 en_39.lt
   replace enk := blk2 en
   replace i2 := i2_40.below hb9
   clear hB_31 xk_32 x_32 zk_33 z_33 yk_34 y_34 xek_35 xe_35 rk_36 rkf_36 r_36 i1_37 qbk_38 qbkf_38 qb_38 enk_39 en_39 i2_40
   generalize hM9 : Pn.tabSet D U.1 t ((u : Int) % 16) K B = S at *
   have or9 := o9 _ lr9 or2
   have oq9 := o9 _ lq9 oq2
   have O9 : ∀ b, b < w.heap.size → PnOff b L ⟨B1, b1⟩ ⟨B2, b2⟩ → PnOff b S.1 p9 q9 := fun b hb ho => o9 b (Nat.lt_of_lt_of_le hb hs9) (O2 b hb ho)
   have HM9 := hid hM9
   clear o9 hM9
   have hB_41 := below_set2 hB (g := w1.heap.size) (by omega) (.slice p9.a S.1.targets.length p9.c) (.slice q9.a S.1.data.length q9.c)
   have x_42 := blk_off2 x (g := w1.heap.size) (by omega) (.slice p9.a S.1.targets.length p9.c) (.slice q9.a S.1.data.length q9.c)
   have xk_42 := blk5 x_42
   have z_43 := blk_off2 z (g := w1.heap.size) (by omega) (.slice p9.a S.1.targets.length p9.c) (.slice q9.a S.1.data.length q9.c)
   have zk_43 := blk2 z_43
   have y_44 := blk_off2 y (g := w1.heap.size) (by omega) (.slice p9.a S.1.targets.length p9.c) (.slice q9.a S.1.data.length q9.c)
   have yk_44 := blk2 y_44
   have xe_45 := blk_off2 xe (g := w1.heap.size) (by omega) (.slice p9.a S.1.targets.length p9.c) (.slice q9.a S.1.data.length q9.c)
   have xek_45 := blk2 xe_45
   have r_46 := blk_off2 r (g := w1.heap.size) (by omega) (.slice p9.a S.1.targets.length p9.c) (.slice q9.a S.1.data.length q9.c)
   have rk_46 := blk2 r_46
   have rkf_46 := r_46.frozen
   have i1_47 := i1.off2 (g := w1.heap.size) (by first | assumption | omega) (.slice p9.a S.1.targets.length p9.c) (.slice q9.a S.1.data.length q9.c)
   have qb_48 := blk_set2 qb (.slice p9.a S.1.targets.length p9.c) (.slice q9.a S.1.data.length q9.c)
   have qbk_48 := blk2 qb_48
   have qbkf_48 := qb_48.frozen
   have en_49 := blk_off2 en (g := w1.heap.size) (by omega) (.slice p9.a S.1.targets.length p9.c) (.slice q9.a S.1.data.length q9.c)
   have enk_49 := blk2 en_49
   have i2_50 := i2.off2 (g := w1.heap.size) (by first | assumption | omega) (.slice p9.a S.1.targets.length p9.c) (.slice q9.a S.1.data.length q9.c)
   have i9_51 := i9.off2 (g := w1.heap.size) (by first | assumption | omega) (.slice p9.a S.1.targets.length p9.c) (.slice q9.a S.1.data.length q9.c)
   by_cases h9 : S.2 = 0
   · have HE := hid (show Pn.ptPoint D L g h u K B = (S.1, 0) by rw [Hw.out, HS0.out, if_neg (by rw [h9]; simp)])
     have n9 : (S.2 != 0) = false := by simp [h9]
     clear h9
     have yy := blk2 (blk_set2 r_46 (.slice p9.a S.1.targets.length p9.c) (.slice q9.a S.1.data.length q9.c))
     have qq := ((r_46).set 0 (.slice p9.a S.1.targets.length p9.c)).frozen
     have b9 := below_set2 hB_41 (g := w.heap.size + 1 + 1 + 1 + 1) (by omega) (.slice p9.a S.1.targets.length p9.c) (.slice q9.a S.1.data.length q9.c)
     have i9 := i9_51.off2 or9 (.slice p9.a S.1.targets.length p9.c) (.slice q9.a S.1.data.length q9.c)
     go_wp2_with fail
     refine bodyPost_ret (v := .tuple #[pval S.1 p9 q9, .int .i64 0]) (by simp [results, Tryz.results39, go_sem, yy]) rfl ?_
     rw [HE.out]
     exact ⟨⟨p9, q9, rfl, i9, O9⟩, b9⟩
   · have HE := hid (show Pn.ptPoint D L g h u K B = (L, S.2) by rw [Hw.out, HS0.out, if_pos h9])
     have n9 : (S.2 != 0) = true := by simpa using h9
     clear h9
     have yy := blk2 (blk_set2 r_46 (.slice B1 L.targets.length b1) (.slice B2 L.data.length b2))
     have qq := ((r_46).set 0 (.slice B1 L.targets.length b1)).frozen
     have b9 := below_set2 hB_41 (g := w.heap.size + 1 + 1 + 1 + 1) (by omega) (.slice B1 L.targets.length b1) (.slice B2 L.data.length b2)
     have i9 := (HL.out _ hB_41).off2 (oP (w.heap.size + 1 + 1 + 1 + 1) (by omega)) (.slice B1 L.targets.length b1) (.slice B2 L.data.length b2)
     go_wp2_with fail
     refine bodyPost_ret (v := .tuple #[pval L ⟨B1, b1⟩ ⟨B2, b2⟩, .int .i64 S.2]) (by simp [results, Tryz.results39, go_sem, yy]) rfl ?_
     rw [HE.out]
     exact ⟨⟨⟨B1, b1⟩, ⟨B2, b2⟩, rfl, i9, fun b hb ho => ho⟩, b9⟩
 · have nK : (K2 == 1) = false := by simpa using hK
   have HS0 := hid (Hps.out.trans (by rw [if_neg hK, Pn.step_zero (s := (T, 0)) rfl]))
   have Tf := hTf
   have lq9 := (qb_30).lt
   have lr9 := (r_28).lt
   have hs9 := (hB_23).size
   go_wp2_with fail
   go_at_call 72
   refine ((hset _ hB_23 T p1 q1 i1_29 Tf)).mono ?_
   rintro e w9 ⟨⟨p9, q9, rfl, i9, o9⟩, hb9⟩
   replace hB := bt hB_23 hb9
   replace x := x_24.below hb9 x_24.lt
   replace xk := blk5 x
   replace z := z_25.below hb9 z_25.lt
   replace zk := blk2 z
   replace y := y_26.below hb9 y_26.lt
   replace yk := blk2 y
   replace xe := xe_27.below hb9 xe_27.lt
   replace xek := blk2 xe
   replace r := r_28.below hb9 r_28.lt
   replace rk := blk2 r
   replace rkf := r.frozen
   replace i1 := i1_29.below hb9
   replace qb := qb_30.below hb9 qb_30.lt
   replace qbk := blk2 qb
   replace qbkf := qb.frozen
   replace en := en.below hb9 en.lt
   replace enk := blk2 en
   clear hB_23 xk_24 x_24 zk_25 z_25 yk_26 y_26 xek_27 xe_27 rk_28 rkf_28 r_28 i1_29 qbk_30 qbkf_30 qb_30
   generalize hM9 : Pn.tabSet D T t ((u : Int) % 16) K B = S at *
   have or9 := o9 _ lr9 or1
   have oq9 := o9 _ lq9 oq1
   have O9 : ∀ b, b < w.heap.size → PnOff b L ⟨B1, b1⟩ ⟨B2, b2⟩ → PnOff b S.1 p9 q9 := fun b hb ho => o9 b (Nat.lt_of_lt_of_le hb hs9) (O1 b hb ho)
   have HM9 := hid hM9
   clear o9 hM9
   have hB_31 := below_set2 hB (g := w1.heap.size) (by omega) (.slice p9.a S.1.targets.length p9.c) (.slice q9.a S.1.data.length q9.c)
   have x_32 := blk_off2 x (g := w1.heap.size) (by omega) (.slice p9.a S.1.targets.length p9.c) (.slice q9.a S.1.data.length q9.c)
   have xk_32 := blk5 x_32
   have z_33 := blk_off2 z (g := w1.heap.size) (by omega) (.slice p9.a S.1.targets.length p9.c) (.slice q9.a S.1.data.length q9.c)
   have zk_33 := blk2 z_33
   have y_34 := blk_off2 y (g := w1.heap.size) (by omega) (.slice p9.a S.1.targets.length p9.c) (.slice q9.a S.1.data.length q9.c)
   have yk_34 := blk2 y_34
   have xe_35 := blk_off2 xe (g := w1.heap.size) (by omega) (.slice p9.a S.1.targets.length p9.c) (.slice q9.a S.1.data.length q9.c)
   have xek_35 := blk2 xe_35
   have r_36 := blk_off2 r (g := w1.heap.size) (by omega) (.slice p9.a S.1.targets.length p9.c) (.slice q9.a S.1.data.length q9.c)
   have rk_36 := blk2 r_36
   have rkf_36 := r_36.frozen
   have i1_37 := i1.off2 (g := w1.heap.size) (by first | assumption | omega) (.slice p9.a S.1.targets.length p9.c) (.slice q9.a S.1.data.length q9.c)
   have qb_38 := blk_set2 qb (.slice p9.a S.1.targets.length p9.c) (.slice q9.a S.1.data.length q9.c)
   have qbk_38 := blk2 qb_38
   have qbkf_38 := qb_38.frozen
   have en_39 := blk_off2 en (g := w1.heap.size) (by omega) (.slice p9.a S.1.targets.length p9.c) (.slice q9.a S.1.data.length q9.c)
   have enk_39 := blk2 en_39
   have i9_40 := i9.off2 (g := w1.heap.size) (by first | assumption | omega) (.slice p9.a S.1.targets.length p9.c) (.slice q9.a S.1.data.length q9.c)
   by_cases h9 : S.2 = 0
   · have HE := hid (show Pn.ptPoint D L g h u K B = (S.1, 0) by rw [Hw.out, HS0.out, if_neg (by rw [h9]; simp)])
     have n9 : (S.2 != 0) = false := by simp [h9]
     clear h9
     have yy := blk2 (blk_set2 r_36 (.slice p9.a S.1.targets.length p9.c) (.slice q9.a S.1.data.length q9.c))
     have qq := ((r_36).set 0 (.slice p9.a S.1.targets.length p9.c)).frozen
     have b9 := below_set2 hB_31 (g := w.heap.size + 1 + 1 + 1 + 1) (by omega) (.slice p9.a S.1.targets.length p9.c) (.slice q9.a S.1.data.length q9.c)
     have i9 := i9_40.off2 or9 (.slice p9.a S.1.targets.length p9.c) (.slice q9.a S.1.data.length q9.c)
     go_wp2_with fail
     refine bodyPost_ret (v := .tuple #[pval S.1 p9 q9, .int .i64 0]) (by simp [results, Tryz.results39, go_sem, yy]) rfl ?_
     rw [HE.out]
     exact ⟨⟨p9, q9, rfl, i9, O9⟩, b9⟩
   · have HE := hid (show Pn.ptPoint D L g h u K B = (L, S.2) by rw [Hw.out, HS0.out, if_pos h9])
     have n9 : (S.2 != 0) = true := by simpa using h9
     clear h9
     have yy := blk2 (blk_set2 r_36 (.slice B1 L.targets.length b1) (.slice B2 L.data.length b2))
     have qq := ((r_36).set 0 (.slice B1 L.targets.length b1)).frozen
     have b9 := below_set2 hB_31 (g := w.heap.size + 1 + 1 + 1 + 1) (by omega) (.slice B1 L.targets.length b1) (.slice B2 L.data.length b2)
     have i9 := (HL.out _ hB_31).off2 (oP (w.heap.size + 1 + 1 + 1 + 1) (by omega)) (.slice B1 L.targets.length b1) (.slice B2 L.data.length b2)
     go_wp2_with fail
     refine bodyPost_ret (v := .tuple #[pval L ⟨B1, b1⟩ ⟨B2, b2⟩, .int .i64 S.2]) (by simp [results, Tryz.results39, go_sem, yy]) rfl ?_
     rw [HE.out]
     exact ⟨⟨⟨B1, b1⟩, ⟨B2, b2⟩, rfl, i9, fun b hb ho => ho⟩, b9⟩
end Go.Proofs.YtlapjkbefkmohaaGreat
