/- Package ref14: a cluster of the guest's is nothing. -/
import Derived.Test.YtlapjkbefkmohaaGreatSdImg7
set_option linter.unusedVariables false
namespace Go.Proofs.YtlapjkbefkmohaaGreat
open Go.RowKit Go.Shelf
attribute [local go_sem] bs_mk bs_append bs_extract bs_size bs_toList bs_get
set_option maxRecDepth 100000 in
set_option maxHeartbeats 8000000 in
theorem r14_wipe_in (x : Im) (p q r : Pl) (w : World) (hI : IsIm w x p q r) (ok : x.Ok) (hbr : x.br = false) (u : Int) (hu : 0 ≤ u ∧ u < x.g) :
 Calls Tryz.prog 41 #[imval x p q r, .int .i64 u, .bool true] w fun e w' => RetIm w.heap.size x p q r (x.wipe u true) e w' ∧ Below w.heap.size w w' := by
 have hx : x.wipe u true = (x.mark u).wipeIn u true := by rw [Im.wipe, if_neg (by rw [hbr]; simp), if_neg (by omega)]
 have Hap := hid (fun g (hg : w.heap.size ≤ g) => hI.apart hg)
 have Hmk := hid (fun (W : World) (hb : Below w.heap.size w W) => r13_mark x u p q r W (hI.below hb) (by have := ok.g; unfold okInt; omega) (by have := ok.maps; omega))
 rw [hx]
 clear hx
 obtain ⟨D, g, h, ⟨seq, pos⟩, maps, br⟩ := x
 obtain ⟨hd, hm⟩ := hI
 have hf := ok.d
 have hg := ok.g
 have hh := ok.h
 have Hok := hid (ok.mark u)
 simp only [Im.mark] at hd hm hf hg hh hbr hu Hap Hmk Hok ⊢
 subst hbr
 generalize Im.markM u maps = ms at Hmk Hok ⊢
 have Hrg := hid (fun (W : World) (hb : Below w.heap.size w W) => r10_get D Pn.none p q ⟨none, 0⟩ ⟨none, 0⟩ W (hd.below hb) (isPn_zero _) hf Pn.none_fit)
 have Hfd := hid (fun (l : Int) (W : World) (hb : Below w.heap.size w W) => t11_find D Pn.none p q ⟨none, 0⟩ ⟨none, 0⟩ W (hd.below hb) (isPn_zero _) hf Pn.none_fit l u)
 have Hpt := hid (fun (W : World) (hb : Below w.heap.size w W) => r12_point D Pn.none p q ⟨none, 0⟩ ⟨none, 0⟩ W (hd.below hb) (isPn_zero _) hf Pn.none_fit g h (by omega) (by omega) u 0 0 (by omega))
 have Hpf := hid (Pn.ptPoint_fit hf Pn.none_fit g h u 0 0)
 have HW := hid (show Im.wipeIn ⟨D, g, h, ⟨seq, pos⟩, ms, false⟩ u true = if (Pn.rtGet D Pn.none).2 ≠ 0 then (⟨D, g, h, ⟨seq, pos⟩, ms, false⟩, (Pn.rtGet D Pn.none).2) else if (Pn.tabFind D Pn.none (Pn.rtGet D Pn.none).1.1 u).2 ≠ 0 then (⟨D, g, h, ⟨seq, pos⟩, ms, false⟩, (Pn.tabFind D Pn.none (Pn.rtGet D Pn.none).1.1 u).2)
  else if (Pn.tabFind D Pn.none (Pn.rtGet D Pn.none).1.1 u).1 = (0, 0) then (⟨D, g, h, ⟨seq, pos⟩, ms, false⟩, 0)
  else if (Pn.ptPoint D Pn.none g h u 0 0).2 ≠ 0 then (⟨D, g, h, ⟨seq, pos⟩, ms, false⟩, (Pn.ptPoint D Pn.none g h u 0 0).2) else Im.done ⟨D, g, h, ⟨seq, pos⟩, ms, false⟩ (Pn.ptPoint D Pn.none g h u 0 0).1 from rfl)
 generalize Pn.rtGet D Pn.none = RG at *
 obtain ⟨⟨one, n⟩, er⟩ := RG
 simp only at Hrg HW
 replace Hfd := hid (Hfd.out one)
 generalize Pn.tabFind D Pn.none (one : Int) u = TF at *
 obtain ⟨⟨K, A⟩, et⟩ := TF
 simp only at Hfd HW
 generalize Pn.ptPoint D Pn.none g h u 0 0 = PT at *
 obtain ⟨L, ep⟩ := PT
 simp only at Hpt Hpf HW
 have Hdn := hid (fun (W : World) (p' q' R : Pl) (i1 : IsDk W D p q) (i2 : IsMs W ms R) (i3 : IsPn W L p' q') => r13_done ⟨D, g, h, ⟨seq, pos⟩, ms, false⟩ L p q R p' q' W ⟨i1, i2⟩ i3 Hok.out Hpf.out)
 generalize Im.done ⟨D, g, h, ⟨seq, pos⟩, ms, false⟩ L = DN at *
 clear ok
 obtain ⟨A1, a1⟩ := p
 obtain ⟨A2, a2⟩ := q
 obtain ⟨A3, a3⟩ := r
 have f0 : decide (u < 0) = false := decide_eq_false (by omega)
 have f1 : decide (g ≤ u) = false := decide_eq_false (by omega)
 have ox0 := Hap.out w.heap.size (Nat.le_refl _)
 have or0 := Hap.out (w.heap.size + 1) (by omega)
 have hB := Below.refl w.heap.size w
 have x := Blk.new w 33 #[.string (bs D.data), .slice A1 D.cache.length a1, .int .i64 D.fuse, .bool D.off, .slice A2 D.bad.length a2, .int .i64 g, .int .i64 h, .int .u64 seq, .int .i64 pos, .slice A3 maps.length a3, .bool false]
 have xk := blk11 x
 have xkf := x.frozen
 have hB_1 := hB.alloc hB.size (.cells #[.string (bs D.data), .slice A1 D.cache.length a1, .int .i64 D.fuse, .bool D.off, .slice A2 D.bad.length a2, .int .i64 g, .int .i64 h, .int .u64 seq, .int .i64 pos, .slice A3 maps.length a3, .bool false] 33)
 have hd_2 := hd.below ((Below.refl _ _).alloc (Nat.le_refl _) (.cells #[.string (bs D.data), .slice A1 D.cache.length a1, .int .i64 D.fuse, .bool D.off, .slice A2 D.bad.length a2, .int .i64 g, .int .i64 h, .int .u64 seq, .int .i64 pos, .slice A3 maps.length a3, .bool false] 33))
 have hm_3 := hm.below ((Below.refl _ _).alloc (Nat.le_refl _) (.cells #[.string (bs D.data), .slice A1 D.cache.length a1, .int .i64 D.fuse, .bool D.off, .slice A2 D.bad.length a2, .int .i64 g, .int .i64 h, .int .u64 seq, .int .i64 pos, .slice A3 maps.length a3, .bool false] 33))
 have r := Blk.new (w.alloc (.cells #[.string (bs D.data), .slice A1 D.cache.length a1, .int .i64 D.fuse, .bool D.off, .slice A2 D.bad.length a2, .int .i64 g, .int .i64 h, .int .u64 seq, .int .i64 pos, .slice A3 maps.length a3, .bool false] 33)) 33 #[.string (bs []), .slice none 0 0, .int .i64 0, .bool false, .slice none 0 0, .int .i64 0, .int .i64 0, .int .u64 0, .int .i64 0, .slice none 0 0, .bool false]
 simp only [World.size_alloc] at r
 have rk := blk11 r
 have rkf := r.frozen
 have hB_4 := hB_1.alloc hB_1.size (.cells #[.string (bs []), .slice none 0 0, .int .i64 0, .bool false, .slice none 0 0, .int .i64 0, .int .i64 0, .int .u64 0, .int .i64 0, .slice none 0 0, .bool false] 33)
 have hd_5 := hd_2.below ((Below.refl _ _).alloc (Nat.le_refl _) (.cells #[.string (bs []), .slice none 0 0, .int .i64 0, .bool false, .slice none 0 0, .int .i64 0, .int .i64 0, .int .u64 0, .int .i64 0, .slice none 0 0, .bool false] 33))
 have hm_6 := hm_3.below ((Below.refl _ _).alloc (Nat.le_refl _) (.cells #[.string (bs []), .slice none 0 0, .int .i64 0, .bool false, .slice none 0 0, .int .i64 0, .int .i64 0, .int .u64 0, .int .i64 0, .slice none 0 0, .bool false] 33))
 have x_7 := x.alloc (.cells #[.string (bs []), .slice none 0 0, .int .i64 0, .bool false, .slice none 0 0, .int .i64 0, .int .i64 0, .int .u64 0, .int .i64 0, .slice none 0 0, .bool false] 33)
 have xk_7 := blk11 x_7
 have xkf_7 := x_7.frozen
 go_enter Tryz.func41, Tryz.ntmps41
 go_wp2_with fail
 go_at_call 32
 refine ((Hmk.out _ hB_4)).mono ?_
 rintro e w1 ⟨⟨⟨R3, r3⟩, rfl, im, om⟩, hb1⟩
 replace hB := bt hB_4 hb1
 replace hd := hd_5.below hb1
 replace hm := hm_6.below hb1
 replace x := x_7.below hb1 x_7.lt
 replace xk := blk11 x
 replace xkf := x.frozen
 replace r := r.below hb1 r.lt
 replace rk := blk11 r
 replace rkf := r.frozen
 clear hB_1 hd_2 hm_3 hB_4 hd_5 hm_6 xk_7 xkf_7 x_7
 have ox1 := (om w.heap.size (by simp only [World.size_alloc]; omega) ox0)
 have or1 := (om (w.heap.size + 1) (by simp only [World.size_alloc]; omega) or0)
 have oxd := ox0.1
 have ord := or0.1
 have oxm := ox1.2
 have orm := or1.2
 replace im := im.m
 have OM := hid (fun g' (h1 : g' < w.heap.size) (h2 : ImOff g' ⟨D, g, h, ⟨seq, pos⟩, maps, false⟩ ⟨A1, a1⟩ ⟨A2, a2⟩ ⟨A3, a3⟩) => (om g' (by simp only [World.size_alloc]; omega) h2).2)
 clear Hmk ox0 or0 om ox1 or1 f0 f1
 have hrl := r.lt
 have hB_8 := below11 hB (g := w.heap.size) (by omega) (.string (bs D.data)) (.slice A1 D.cache.length a1) (.int .i64 D.fuse) (.bool D.off) (.slice A2 D.bad.length a2) (.int .i64 g) (.int .i64 h) (.int .u64 seq) (.int .i64 pos) (.slice R3 ms.length r3) (.bool false)
 have hd_9 := hd.off11 (g := w.heap.size) (by first | assumption | omega) (.string (bs D.data)) (.slice A1 D.cache.length a1) (.int .i64 D.fuse) (.bool D.off) (.slice A2 D.bad.length a2) (.int .i64 g) (.int .i64 h) (.int .u64 seq) (.int .i64 pos) (.slice R3 ms.length r3) (.bool false)
 have x_10 := blk_set11 x (.string (bs D.data)) (.slice A1 D.cache.length a1) (.int .i64 D.fuse) (.bool D.off) (.slice A2 D.bad.length a2) (.int .i64 g) (.int .i64 h) (.int .u64 seq) (.int .i64 pos) (.slice R3 ms.length r3) (.bool false)
 have xk_10 := blk11 x_10
 have xkf_10 := x_10.frozen
 have r_11 := blk_off11 r (g := w.heap.size) (by omega) (.string (bs D.data)) (.slice A1 D.cache.length a1) (.int .i64 D.fuse) (.bool D.off) (.slice A2 D.bad.length a2) (.int .i64 g) (.int .i64 h) (.int .u64 seq) (.int .i64 pos) (.slice R3 ms.length r3) (.bool false)
 have rk_11 := blk11 r_11
 have rkf_11 := r_11.frozen
 have im_12 := im.off11 (g := w.heap.size) (by first | assumption | omega) (.string (bs D.data)) (.slice A1 D.cache.length a1) (.int .i64 D.fuse) (.bool D.off) (.slice A2 D.bad.length a2) (.int .i64 g) (.int .i64 h) (.int .u64 seq) (.int .i64 pos) (.slice R3 ms.length r3) (.bool false)
 go_wp2_with fail
 go_at_call 20
 refine ((Hrg.out _ hB_8)).mono ?_
 rintro e w2 ⟨rfl, hb2⟩
 replace hB := bt hB_8 hb2
 replace hd := hd_9.below hb2
 replace x := x_10.below hb2 x_10.lt
 replace xk := blk11 x
 replace xkf := x.frozen
 replace r := r_11.below hb2 r_11.lt
 replace rk := blk11 r
 replace rkf := r.frozen
 replace im := im_12.below hb2
 clear hB_8 hd_9 xk_10 xkf_10 x_10 rk_11 rkf_11 r_11 im_12
 have hrl2 := hid (r.lt)
 have z := Blk.new w2 62 #[.int .i64 one, .int .u32 n]
 have zk := blk2 z
 have hB_13 := hB.alloc hB.size (.cells #[.int .i64 one, .int .u32 n] 62)
 have hd_14 := hd.below ((Below.refl _ _).alloc (Nat.le_refl _) (.cells #[.int .i64 one, .int .u32 n] 62))
 have x_15 := x.alloc (.cells #[.int .i64 one, .int .u32 n] 62)
 have xk_15 := blk11 x_15
 have xkf_15 := x_15.frozen
 have r_16 := r.alloc (.cells #[.int .i64 one, .int .u32 n] 62)
 have rk_16 := blk11 r_16
 have rkf_16 := r_16.frozen
 have im_17 := im.below ((Below.refl _ _).alloc (Nat.le_refl _) (.cells #[.int .i64 one, .int .u32 n] 62))
 by_cases he : er = 0
 rotate_left
 · have n1 : (er != 0) = true := bne_iff_ne.2 he
   have Hr := hid (show Im.wipeIn ⟨D, g, h, ⟨seq, pos⟩, ms, false⟩ u true = (⟨D, g, h, ⟨seq, pos⟩, ms, false⟩, er) by rw [HW.out]; exact if_pos he)
   clear HW Hfd Hpt Hpf Hdn
   have q_hrl2 := hrl2.out
   have hB_18 := below11 hB_13 (g := w.heap.size + 1) (by omega) (.string (bs D.data)) (.slice A1 D.cache.length a1) (.int .i64 D.fuse) (.bool D.off) (.slice A2 D.bad.length a2) (.int .i64 g) (.int .i64 h) (.int .u64 seq) (.int .i64 pos) (.slice R3 ms.length r3) (.bool false)
   have hd_19 := hd_14.off11 (g := w.heap.size + 1) (by first | assumption | omega) (.string (bs D.data)) (.slice A1 D.cache.length a1) (.int .i64 D.fuse) (.bool D.off) (.slice A2 D.bad.length a2) (.int .i64 g) (.int .i64 h) (.int .u64 seq) (.int .i64 pos) (.slice R3 ms.length r3) (.bool false)
   have x_20 := blk_off11 x_15 (g := w.heap.size + 1) (by omega) (.string (bs D.data)) (.slice A1 D.cache.length a1) (.int .i64 D.fuse) (.bool D.off) (.slice A2 D.bad.length a2) (.int .i64 g) (.int .i64 h) (.int .u64 seq) (.int .i64 pos) (.slice R3 ms.length r3) (.bool false)
   have xk_20 := blk11 x_20
   have xkf_20 := x_20.frozen
   have r_21 := blk_set11 r_16 (.string (bs D.data)) (.slice A1 D.cache.length a1) (.int .i64 D.fuse) (.bool D.off) (.slice A2 D.bad.length a2) (.int .i64 g) (.int .i64 h) (.int .u64 seq) (.int .i64 pos) (.slice R3 ms.length r3) (.bool false)
   have rk_21 := blk11 r_21
   have rkf_21 := r_21.frozen
   have im_22 := im_17.off11 (g := w.heap.size + 1) (by first | assumption | omega) (.string (bs D.data)) (.slice A1 D.cache.length a1) (.int .i64 D.fuse) (.bool D.off) (.slice A2 D.bad.length a2) (.int .i64 g) (.int .i64 h) (.int .u64 seq) (.int .i64 pos) (.slice R3 ms.length r3) (.bool false)
   have z_23 := blk_off11 z (g := w.heap.size + 1) (by omega) (.string (bs D.data)) (.slice A1 D.cache.length a1) (.int .i64 D.fuse) (.bool D.off) (.slice A2 D.bad.length a2) (.int .i64 g) (.int .i64 h) (.int .u64 seq) (.int .i64 pos) (.slice R3 ms.length r3) (.bool false)
   have zk_23 := blk2 z_23
   clear q_hrl2
   have yy := blk11 r_21
   have bw := hB_18
   have dw := hd_19
   have mw := im_22
   go_wp2_with fail
   refine bodyPost_ret (v := .tuple #[imval ⟨D, g, h, ⟨seq, pos⟩, ms, false⟩ ⟨A1, a1⟩ ⟨A2, a2⟩ ⟨R3, r3⟩, .int .i64 er]) (by simp [results, Tryz.results41, go_sem, yy]) rfl ?_
   rw [Hr.out]
   exact ⟨⟨⟨A1, a1⟩, ⟨A2, a2⟩, ⟨R3, r3⟩, rfl, ⟨dw, mw⟩, fun g' h1 h2 => ⟨h2.1, OM.out g' h1 h2⟩⟩, bw⟩
 subst he
 go_wp2_with fail
 go_at_call 23
 refine ((Hfd.out _ hB_13)).mono ?_
 rintro e w3 ⟨rfl, hb3⟩
 replace hB := bt hB_13 hb3
 replace hd := hd_14.below hb3
 replace x := x_15.below hb3 x_15.lt
 replace xk := blk11 x
 replace xkf := x.frozen
 replace r := r_16.below hb3 r_16.lt
 replace rk := blk11 r
 replace rkf := r.frozen
 replace im := im_17.below hb3
 replace z := z.below hb3 z.lt
 replace zk := blk2 z
 clear hB_13 hd_14 xk_15 xkf_15 x_15 rk_16 rkf_16 r_16 im_17
 have hrl3 := hid (r.lt)
 have y := Blk.new w3 73 #[.int .i64 K, .int .i64 A]
 have yk := blk2 y
 have hB_18 := hB.alloc hB.size (.cells #[.int .i64 K, .int .i64 A] 73)
 have hd_19 := hd.below ((Below.refl _ _).alloc (Nat.le_refl _) (.cells #[.int .i64 K, .int .i64 A] 73))
 have x_20 := x.alloc (.cells #[.int .i64 K, .int .i64 A] 73)
 have xk_20 := blk11 x_20
 have xkf_20 := x_20.frozen
 have r_21 := r.alloc (.cells #[.int .i64 K, .int .i64 A] 73)
 have rk_21 := blk11 r_21
 have rkf_21 := r_21.frozen
 have im_22 := im.below ((Below.refl _ _).alloc (Nat.le_refl _) (.cells #[.int .i64 K, .int .i64 A] 73))
 have z_23 := z.alloc (.cells #[.int .i64 K, .int .i64 A] 73)
 have zk_23 := blk2 z_23
 by_cases ht : et = 0
 rotate_left
 · have n1 : (et != 0) = true := bne_iff_ne.2 ht
   have Hr := hid (show Im.wipeIn ⟨D, g, h, ⟨seq, pos⟩, ms, false⟩ u true = (⟨D, g, h, ⟨seq, pos⟩, ms, false⟩, et) by rw [HW.out]; exact (if_neg (by simp)).trans (if_pos ht))
   clear HW Hpt Hpf Hdn
   have q_hrl2 := hrl2.out
   have q_hrl3 := hrl3.out
   have hB_24 := below11 hB_18 (g := w.heap.size + 1) (by omega) (.string (bs D.data)) (.slice A1 D.cache.length a1) (.int .i64 D.fuse) (.bool D.off) (.slice A2 D.bad.length a2) (.int .i64 g) (.int .i64 h) (.int .u64 seq) (.int .i64 pos) (.slice R3 ms.length r3) (.bool false)
   have hd_25 := hd_19.off11 (g := w.heap.size + 1) (by first | assumption | omega) (.string (bs D.data)) (.slice A1 D.cache.length a1) (.int .i64 D.fuse) (.bool D.off) (.slice A2 D.bad.length a2) (.int .i64 g) (.int .i64 h) (.int .u64 seq) (.int .i64 pos) (.slice R3 ms.length r3) (.bool false)
   have x_26 := blk_off11 x_20 (g := w.heap.size + 1) (by omega) (.string (bs D.data)) (.slice A1 D.cache.length a1) (.int .i64 D.fuse) (.bool D.off) (.slice A2 D.bad.length a2) (.int .i64 g) (.int .i64 h) (.int .u64 seq) (.int .i64 pos) (.slice R3 ms.length r3) (.bool false)
   have xk_26 := blk11 x_26
   have xkf_26 := x_26.frozen
   have r_27 := blk_set11 r_21 (.string (bs D.data)) (.slice A1 D.cache.length a1) (.int .i64 D.fuse) (.bool D.off) (.slice A2 D.bad.length a2) (.int .i64 g) (.int .i64 h) (.int .u64 seq) (.int .i64 pos) (.slice R3 ms.length r3) (.bool false)
   have rk_27 := blk11 r_27
   have rkf_27 := r_27.frozen
   have im_28 := im_22.off11 (g := w.heap.size + 1) (by first | assumption | omega) (.string (bs D.data)) (.slice A1 D.cache.length a1) (.int .i64 D.fuse) (.bool D.off) (.slice A2 D.bad.length a2) (.int .i64 g) (.int .i64 h) (.int .u64 seq) (.int .i64 pos) (.slice R3 ms.length r3) (.bool false)
   have z_29 := blk_off11 z_23 (g := w.heap.size + 1) (by omega) (.string (bs D.data)) (.slice A1 D.cache.length a1) (.int .i64 D.fuse) (.bool D.off) (.slice A2 D.bad.length a2) (.int .i64 g) (.int .i64 h) (.int .u64 seq) (.int .i64 pos) (.slice R3 ms.length r3) (.bool false)
   have zk_29 := blk2 z_29
   have y_30 := blk_off11 y (g := w.heap.size + 1) (by omega) (.string (bs D.data)) (.slice A1 D.cache.length a1) (.int .i64 D.fuse) (.bool D.off) (.slice A2 D.bad.length a2) (.int .i64 g) (.int .i64 h) (.int .u64 seq) (.int .i64 pos) (.slice R3 ms.length r3) (.bool false)
   have yk_30 := blk2 y_30
   clear q_hrl2 q_hrl3
   have yy := blk11 r_27
   have bw := hB_24
   have dw := hd_25
   have mw := im_28
   go_wp2_with fail
   refine bodyPost_ret (v := .tuple #[imval ⟨D, g, h, ⟨seq, pos⟩, ms, false⟩ ⟨A1, a1⟩ ⟨A2, a2⟩ ⟨R3, r3⟩, .int .i64 et]) (by simp [results, Tryz.results41, go_sem, yy]) rfl ?_
   rw [Hr.out]
   exact ⟨⟨⟨A1, a1⟩, ⟨A2, a2⟩, ⟨R3, r3⟩, rfl, ⟨dw, mw⟩, fun g' h1 h2 => ⟨h2.1, OM.out g' h1 h2⟩⟩, bw⟩
 subst ht
 have v := Blk.new (w3.alloc (.cells #[.int .i64 K, .int .i64 A] 73)) 73 #[.int .i64 0, .int .i64 0]
 simp only [World.size_alloc] at v
 have vk := blk2 v
 have hB_24 := hB_18.alloc hB_18.size (.cells #[.int .i64 0, .int .i64 0] 73)
 have hd_25 := hd_19.below ((Below.refl _ _).alloc (Nat.le_refl _) (.cells #[.int .i64 0, .int .i64 0] 73))
 have x_26 := x_20.alloc (.cells #[.int .i64 0, .int .i64 0] 73)
 have xk_26 := blk11 x_26
 have xkf_26 := x_26.frozen
 have r_27 := r_21.alloc (.cells #[.int .i64 0, .int .i64 0] 73)
 have rk_27 := blk11 r_27
 have rkf_27 := r_27.frozen
 have im_28 := im_22.below ((Below.refl _ _).alloc (Nat.le_refl _) (.cells #[.int .i64 0, .int .i64 0] 73))
 have z_29 := z_23.alloc (.cells #[.int .i64 0, .int .i64 0] 73)
 have zk_29 := blk2 z_29
 have y_30 := y.alloc (.cells #[.int .i64 0, .int .i64 0] 73)
 have yk_30 := blk2 y_30
 by_cases hK : (K, A) = ((0 : Int), (0 : Int))
 · obtain ⟨rfl, rfl⟩ := Prod.mk.inj hK
   have Hr := hid (show Im.wipeIn ⟨D, g, h, ⟨seq, pos⟩, ms, false⟩ u true = (⟨D, g, h, ⟨seq, pos⟩, ms, false⟩, 0) by rw [HW.out]; exact (if_neg (by simp)).trans ((if_neg (by simp)).trans (if_pos hK)))
   clear HW Hpt Hpf Hdn
   have q_hrl2 := hrl2.out
   have q_hrl3 := hrl3.out
   clear hK
   have hB_31 := below11 hB_24 (g := w.heap.size + 1) (by omega) (.string (bs D.data)) (.slice A1 D.cache.length a1) (.int .i64 D.fuse) (.bool D.off) (.slice A2 D.bad.length a2) (.int .i64 g) (.int .i64 h) (.int .u64 seq) (.int .i64 pos) (.slice R3 ms.length r3) (.bool false)
   have hd_32 := hd_25.off11 (g := w.heap.size + 1) (by first | assumption | omega) (.string (bs D.data)) (.slice A1 D.cache.length a1) (.int .i64 D.fuse) (.bool D.off) (.slice A2 D.bad.length a2) (.int .i64 g) (.int .i64 h) (.int .u64 seq) (.int .i64 pos) (.slice R3 ms.length r3) (.bool false)
   have x_33 := blk_off11 x_26 (g := w.heap.size + 1) (by omega) (.string (bs D.data)) (.slice A1 D.cache.length a1) (.int .i64 D.fuse) (.bool D.off) (.slice A2 D.bad.length a2) (.int .i64 g) (.int .i64 h) (.int .u64 seq) (.int .i64 pos) (.slice R3 ms.length r3) (.bool false)
   have xk_33 := blk11 x_33
   have xkf_33 := x_33.frozen
   have r_34 := blk_set11 r_27 (.string (bs D.data)) (.slice A1 D.cache.length a1) (.int .i64 D.fuse) (.bool D.off) (.slice A2 D.bad.length a2) (.int .i64 g) (.int .i64 h) (.int .u64 seq) (.int .i64 pos) (.slice R3 ms.length r3) (.bool false)
   have rk_34 := blk11 r_34
   have rkf_34 := r_34.frozen
   have im_35 := im_28.off11 (g := w.heap.size + 1) (by first | assumption | omega) (.string (bs D.data)) (.slice A1 D.cache.length a1) (.int .i64 D.fuse) (.bool D.off) (.slice A2 D.bad.length a2) (.int .i64 g) (.int .i64 h) (.int .u64 seq) (.int .i64 pos) (.slice R3 ms.length r3) (.bool false)
   have z_36 := blk_off11 z_29 (g := w.heap.size + 1) (by omega) (.string (bs D.data)) (.slice A1 D.cache.length a1) (.int .i64 D.fuse) (.bool D.off) (.slice A2 D.bad.length a2) (.int .i64 g) (.int .i64 h) (.int .u64 seq) (.int .i64 pos) (.slice R3 ms.length r3) (.bool false)
   have zk_36 := blk2 z_36
   have y_37 := blk_off11 y_30 (g := w.heap.size + 1) (by omega) (.string (bs D.data)) (.slice A1 D.cache.length a1) (.int .i64 D.fuse) (.bool D.off) (.slice A2 D.bad.length a2) (.int .i64 g) (.int .i64 h) (.int .u64 seq) (.int .i64 pos) (.slice R3 ms.length r3) (.bool false)
   have yk_37 := blk2 y_37
   have v_38 := blk_off11 v (g := w.heap.size + 1) (by omega) (.string (bs D.data)) (.slice A1 D.cache.length a1) (.int .i64 D.fuse) (.bool D.off) (.slice A2 D.bad.length a2) (.int .i64 g) (.int .i64 h) (.int .u64 seq) (.int .i64 pos) (.slice R3 ms.length r3) (.bool false)
   have vk_38 := blk2 v_38
   clear q_hrl2 q_hrl3
   have yy := blk11 r_34
   have bw := hB_31
   have dw := hd_32
   have mw := im_35
   go_wp2_with fail
   refine bodyPost_ret (v := .tuple #[imval ⟨D, g, h, ⟨seq, pos⟩, ms, false⟩ ⟨A1, a1⟩ ⟨A2, a2⟩ ⟨R3, r3⟩, .int .i64 0]) (by simp [results, Tryz.results41, go_sem, yy]) rfl ?_
   rw [Hr.out]
   exact ⟨⟨⟨A1, a1⟩, ⟨A2, a2⟩, ⟨R3, r3⟩, rfl, ⟨dw, mw⟩, fun g' h1 h2 => ⟨h2.1, OM.out g' h1 h2⟩⟩, bw⟩
 have HW2 := hid (show Im.wipeIn ⟨D, g, h, ⟨seq, pos⟩, ms, false⟩ u true = if ep ≠ 0 then (⟨D, g, h, ⟨seq, pos⟩, ms, false⟩, ep) else DN by rw [HW.out]; exact (if_neg (by simp)).trans ((if_neg (by simp)).trans (if_neg hK)))
 have qq : ((K == 0) && (A == 0)) = false := by
  cases hk : ((K == 0) && (A == 0)) with
  | false => rfl
  | true => simp at hk; exact absurd (by rw [hk.1, hk.2]) hK
 clear HW hK
 by_cases k0 : K = 0
 rotate_left
 · have k1 : (K == 0) = false := beq_eq_false_iff_ne.2 k0
   clear qq
   go_wp2_with fail
   go_at_call 39
   refine ((Hpt.out _ hB_24)).mono ?_
   rintro e w4 ⟨⟨P4, Q4, rfl, i4, o4⟩, hb4⟩
   replace hB := bt hB_24 hb4
   replace hd := hd_25.below hb4
   replace x := x_26.below hb4 x_26.lt
   replace xk := blk11 x
   replace xkf := x.frozen
   replace r := r_27.below hb4 r_27.lt
   replace rk := blk11 r
   replace rkf := r.frozen
   replace im := im_28.below hb4
   replace z := z_29.below hb4 z_29.lt
   replace zk := blk2 z
   replace y := y_30.below hb4 y_30.lt
   replace yk := blk2 y
   replace v := v.below hb4 v.lt
   replace vk := blk2 v
   clear hB_18 hd_19 xk_20 xkf_20 x_20 rk_21 rkf_21 r_21 im_22 zk_23 z_23 hB_24 hd_25 xk_26 xkf_26 x_26 rk_27 rkf_27 r_27 im_28 zk_29 z_29 yk_30 y_30
   clear o4
   have hrl4 := hid (r.lt)
   have t := Blk.new w4 67 #[.slice P4.a L.targets.length P4.c, .slice Q4.a L.data.length Q4.c]
   have tk := blk2 t
   have hB_31 := hB.alloc hB.size (.cells #[.slice P4.a L.targets.length P4.c, .slice Q4.a L.data.length Q4.c] 67)
   have hd_32 := hd.below ((Below.refl _ _).alloc (Nat.le_refl _) (.cells #[.slice P4.a L.targets.length P4.c, .slice Q4.a L.data.length Q4.c] 67))
   have x_33 := x.alloc (.cells #[.slice P4.a L.targets.length P4.c, .slice Q4.a L.data.length Q4.c] 67)
   have xk_33 := blk11 x_33
   have xkf_33 := x_33.frozen
   have r_34 := r.alloc (.cells #[.slice P4.a L.targets.length P4.c, .slice Q4.a L.data.length Q4.c] 67)
   have rk_34 := blk11 r_34
   have rkf_34 := r_34.frozen
   have im_35 := im.below ((Below.refl _ _).alloc (Nat.le_refl _) (.cells #[.slice P4.a L.targets.length P4.c, .slice Q4.a L.data.length Q4.c] 67))
   have z_36 := z.alloc (.cells #[.slice P4.a L.targets.length P4.c, .slice Q4.a L.data.length Q4.c] 67)
   have zk_36 := blk2 z_36
   have y_37 := y.alloc (.cells #[.slice P4.a L.targets.length P4.c, .slice Q4.a L.data.length Q4.c] 67)
   have yk_37 := blk2 y_37
   have v_38 := v.alloc (.cells #[.slice P4.a L.targets.length P4.c, .slice Q4.a L.data.length Q4.c] 67)
   have vk_38 := blk2 v_38
   have i4_39 := i4.below ((Below.refl _ _).alloc (Nat.le_refl _) (.cells #[.slice P4.a L.targets.length P4.c, .slice Q4.a L.data.length Q4.c] 67))
   by_cases hp : ep = 0
   rotate_left
   · have n1 : (ep != 0) = true := bne_iff_ne.2 hp
     have Hr := hid (show Im.wipeIn ⟨D, g, h, ⟨seq, pos⟩, ms, false⟩ u true = (⟨D, g, h, ⟨seq, pos⟩, ms, false⟩, ep) by rw [HW2.out]; exact if_pos hp)
     clear HW2 Hdn
     have q_hrl2 := hrl2.out
     have q_hrl3 := hrl3.out
     have q_hrl4 := hrl4.out
     have hB_40 := below11 hB_31 (g := w.heap.size + 1) (by omega) (.string (bs D.data)) (.slice A1 D.cache.length a1) (.int .i64 D.fuse) (.bool D.off) (.slice A2 D.bad.length a2) (.int .i64 g) (.int .i64 h) (.int .u64 seq) (.int .i64 pos) (.slice R3 ms.length r3) (.bool false)
     have hd_41 := hd_32.off11 (g := w.heap.size + 1) (by first | assumption | omega) (.string (bs D.data)) (.slice A1 D.cache.length a1) (.int .i64 D.fuse) (.bool D.off) (.slice A2 D.bad.length a2) (.int .i64 g) (.int .i64 h) (.int .u64 seq) (.int .i64 pos) (.slice R3 ms.length r3) (.bool false)
     have x_42 := blk_off11 x_33 (g := w.heap.size + 1) (by omega) (.string (bs D.data)) (.slice A1 D.cache.length a1) (.int .i64 D.fuse) (.bool D.off) (.slice A2 D.bad.length a2) (.int .i64 g) (.int .i64 h) (.int .u64 seq) (.int .i64 pos) (.slice R3 ms.length r3) (.bool false)
     have xk_42 := blk11 x_42
     have xkf_42 := x_42.frozen
     have r_43 := blk_set11 r_34 (.string (bs D.data)) (.slice A1 D.cache.length a1) (.int .i64 D.fuse) (.bool D.off) (.slice A2 D.bad.length a2) (.int .i64 g) (.int .i64 h) (.int .u64 seq) (.int .i64 pos) (.slice R3 ms.length r3) (.bool false)
     have rk_43 := blk11 r_43
     have rkf_43 := r_43.frozen
     have im_44 := im_35.off11 (g := w.heap.size + 1) (by first | assumption | omega) (.string (bs D.data)) (.slice A1 D.cache.length a1) (.int .i64 D.fuse) (.bool D.off) (.slice A2 D.bad.length a2) (.int .i64 g) (.int .i64 h) (.int .u64 seq) (.int .i64 pos) (.slice R3 ms.length r3) (.bool false)
     have z_45 := blk_off11 z_36 (g := w.heap.size + 1) (by omega) (.string (bs D.data)) (.slice A1 D.cache.length a1) (.int .i64 D.fuse) (.bool D.off) (.slice A2 D.bad.length a2) (.int .i64 g) (.int .i64 h) (.int .u64 seq) (.int .i64 pos) (.slice R3 ms.length r3) (.bool false)
     have zk_45 := blk2 z_45
     have y_46 := blk_off11 y_37 (g := w.heap.size + 1) (by omega) (.string (bs D.data)) (.slice A1 D.cache.length a1) (.int .i64 D.fuse) (.bool D.off) (.slice A2 D.bad.length a2) (.int .i64 g) (.int .i64 h) (.int .u64 seq) (.int .i64 pos) (.slice R3 ms.length r3) (.bool false)
     have yk_46 := blk2 y_46
     have v_47 := blk_off11 v_38 (g := w.heap.size + 1) (by omega) (.string (bs D.data)) (.slice A1 D.cache.length a1) (.int .i64 D.fuse) (.bool D.off) (.slice A2 D.bad.length a2) (.int .i64 g) (.int .i64 h) (.int .u64 seq) (.int .i64 pos) (.slice R3 ms.length r3) (.bool false)
     have vk_47 := blk2 v_47
     have t_48 := blk_off11 t (g := w.heap.size + 1) (by omega) (.string (bs D.data)) (.slice A1 D.cache.length a1) (.int .i64 D.fuse) (.bool D.off) (.slice A2 D.bad.length a2) (.int .i64 g) (.int .i64 h) (.int .u64 seq) (.int .i64 pos) (.slice R3 ms.length r3) (.bool false)
     have tk_48 := blk2 t_48
     clear q_hrl2 q_hrl3 q_hrl4
     have yy := blk11 r_43
     have bw := hB_40
     have dw := hd_41
     have mw := im_44
     go_wp2_with fail
     refine bodyPost_ret (v := .tuple #[imval ⟨D, g, h, ⟨seq, pos⟩, ms, false⟩ ⟨A1, a1⟩ ⟨A2, a2⟩ ⟨R3, r3⟩, .int .i64 ep]) (by simp [results, Tryz.results41, go_sem, yy]) rfl ?_
     rw [Hr.out]
     exact ⟨⟨⟨A1, a1⟩, ⟨A2, a2⟩, ⟨R3, r3⟩, rfl, ⟨dw, mw⟩, fun g' h1 h2 => ⟨h2.1, OM.out g' h1 h2⟩⟩, bw⟩
   subst hp
   obtain ⟨⟨F, g9, h9, ⟨s9, o9⟩, m9, b9⟩, ed⟩ := DN
   have Hr := hid (show Im.wipeIn ⟨D, g, h, ⟨seq, pos⟩, ms, false⟩ u true = (⟨F, g9, h9, ⟨s9, o9⟩, m9, b9⟩, ed) by rw [HW2.out]; exact if_neg (by simp))
   clear HW2
   go_wp2_with fail
   go_at_call 40
   refine ((Hdn.out _ _ _ _ hd_32 im_35 i4_39)).mono ?_
   rintro e w5 ⟨⟨⟨P5, e5⟩, ⟨Q5, f5⟩, ⟨R5, g5⟩, rfl, i5, o5⟩, hb5⟩
   replace hB := bt hB_31 hb5
   replace hd := hd_32.below hb5
   replace x := x_33.below hb5 x_33.lt
   replace xk := blk11 x
   replace xkf := x.frozen
   replace r := r_34.below hb5 r_34.lt
   replace rk := blk11 r
   replace rkf := r.frozen
   replace im := im_35.below hb5
   replace z := z_36.below hb5 z_36.lt
   replace zk := blk2 z
   replace y := y_37.below hb5 y_37.lt
   replace yk := blk2 y
   replace v := v_38.below hb5 v_38.lt
   replace vk := blk2 v
   replace i4 := i4_39.below hb5
   replace t := t.below hb5 t.lt
   replace tk := blk2 t
   clear hB_31 hd_32 xk_33 xkf_33 x_33 rk_34 rkf_34 r_34 im_35 zk_36 z_36 yk_37 y_37 vk_38 v_38 i4_39
   have q_hrl2 := hrl2.out
   have q_hrl3 := hrl3.out
   have q_hrl4 := hrl4.out
   have or5 := o5 (w.heap.size + 1) (by simp only [World.size_alloc]; omega) ⟨ord, orm⟩
   have oF := or5.1
   have oM := or5.2
   have O5 := fun g' (h1 : g' < w.heap.size) h2 => o5 g' (by simp only [World.size_alloc]; omega) h2
   have i5d := i5.d
   have i5m := i5.m
   clear Hdn o5 i5 or5
   have hB_40 := below11 hB (g := w.heap.size + 1) (by omega) (.string (bs F.data)) (.slice P5 F.cache.length e5) (.int .i64 F.fuse) (.bool F.off) (.slice Q5 F.bad.length f5) (.int .i64 g9) (.int .i64 h9) (.int .u64 s9) (.int .i64 o9) (.slice R5 m9.length g5) (.bool b9)
   have x_41 := blk_off11 x (g := w.heap.size + 1) (by omega) (.string (bs F.data)) (.slice P5 F.cache.length e5) (.int .i64 F.fuse) (.bool F.off) (.slice Q5 F.bad.length f5) (.int .i64 g9) (.int .i64 h9) (.int .u64 s9) (.int .i64 o9) (.slice R5 m9.length g5) (.bool b9)
   have xk_41 := blk11 x_41
   have xkf_41 := x_41.frozen
   have r_42 := blk_set11 r (.string (bs F.data)) (.slice P5 F.cache.length e5) (.int .i64 F.fuse) (.bool F.off) (.slice Q5 F.bad.length f5) (.int .i64 g9) (.int .i64 h9) (.int .u64 s9) (.int .i64 o9) (.slice R5 m9.length g5) (.bool b9)
   have rk_42 := blk11 r_42
   have rkf_42 := r_42.frozen
   have z_43 := blk_off11 z (g := w.heap.size + 1) (by omega) (.string (bs F.data)) (.slice P5 F.cache.length e5) (.int .i64 F.fuse) (.bool F.off) (.slice Q5 F.bad.length f5) (.int .i64 g9) (.int .i64 h9) (.int .u64 s9) (.int .i64 o9) (.slice R5 m9.length g5) (.bool b9)
   have zk_43 := blk2 z_43
   have y_44 := blk_off11 y (g := w.heap.size + 1) (by omega) (.string (bs F.data)) (.slice P5 F.cache.length e5) (.int .i64 F.fuse) (.bool F.off) (.slice Q5 F.bad.length f5) (.int .i64 g9) (.int .i64 h9) (.int .u64 s9) (.int .i64 o9) (.slice R5 m9.length g5) (.bool b9)
   have yk_44 := blk2 y_44
   have v_45 := blk_off11 v (g := w.heap.size + 1) (by omega) (.string (bs F.data)) (.slice P5 F.cache.length e5) (.int .i64 F.fuse) (.bool F.off) (.slice Q5 F.bad.length f5) (.int .i64 g9) (.int .i64 h9) (.int .u64 s9) (.int .i64 o9) (.slice R5 m9.length g5) (.bool b9)
   have vk_45 := blk2 v_45
   have t_46 := blk_off11 t (g := w.heap.size + 1) (by omega) (.string (bs F.data)) (.slice P5 F.cache.length e5) (.int .i64 F.fuse) (.bool F.off) (.slice Q5 F.bad.length f5) (.int .i64 g9) (.int .i64 h9) (.int .u64 s9) (.int .i64 o9) (.slice R5 m9.length g5) (.bool b9)
   have tk_46 := blk2 t_46
   have i5d_47 := i5d.off11 (g := w.heap.size + 1) (by first | assumption | omega) (.string (bs F.data)) (.slice P5 F.cache.length e5) (.int .i64 F.fuse) (.bool F.off) (.slice Q5 F.bad.length f5) (.int .i64 g9) (.int .i64 h9) (.int .u64 s9) (.int .i64 o9) (.slice R5 m9.length g5) (.bool b9)
   have i5m_48 := i5m.off11 (g := w.heap.size + 1) (by first | assumption | omega) (.string (bs F.data)) (.slice P5 F.cache.length e5) (.int .i64 F.fuse) (.bool F.off) (.slice Q5 F.bad.length f5) (.int .i64 g9) (.int .i64 h9) (.int .u64 s9) (.int .i64 o9) (.slice R5 m9.length g5) (.bool b9)
   clear q_hrl2 q_hrl3 q_hrl4
   have yy := blk11 r_42
   have bw := hB_40
   have dw := i5d_47
   have mw := i5m_48
   go_wp2_with fail
   refine bodyPost_ret (v := .tuple #[imval ⟨F, g9, h9, ⟨s9, o9⟩, m9, b9⟩ ⟨P5, e5⟩ ⟨Q5, f5⟩ ⟨R5, g5⟩, .int .i64 ed]) (by simp [results, Tryz.results41, go_sem, yy]) rfl ?_
   rw [Hr.out]
   exact ⟨⟨⟨P5, e5⟩, ⟨Q5, f5⟩, ⟨R5, g5⟩, rfl, ⟨dw, mw⟩, fun g' h1 h2 => O5 g' h1 ⟨h2.1, OM.out g' h1 h2⟩⟩, bw⟩
 · have kA : ¬ A = 0 := by intro h; subst h; subst k0; simp at qq
   subst k0
   have k1 : (A == 0) = false := beq_eq_false_iff_ne.2 kA
   clear qq
   go_wp2_with fail
   go_at_call 39
   refine ((Hpt.out _ hB_24)).mono ?_
   rintro e w4 ⟨⟨P4, Q4, rfl, i4, o4⟩, hb4⟩
   replace hB := bt hB_24 hb4
   replace hd := hd_25.below hb4
   replace x := x_26.below hb4 x_26.lt
   replace xk := blk11 x
   replace xkf := x.frozen
   replace r := r_27.below hb4 r_27.lt
   replace rk := blk11 r
   replace rkf := r.frozen
   replace im := im_28.below hb4
   replace z := z_29.below hb4 z_29.lt
   replace zk := blk2 z
   replace y := y_30.below hb4 y_30.lt
   replace yk := blk2 y
   replace v := v.below hb4 v.lt
   replace vk := blk2 v
   clear hB_18 hd_19 xk_20 xkf_20 x_20 rk_21 rkf_21 r_21 im_22 zk_23 z_23 hB_24 hd_25 xk_26 xkf_26 x_26 rk_27 rkf_27 r_27 im_28 zk_29 z_29 yk_30 y_30
   clear o4
   have hrl4 := hid (r.lt)
   have t := Blk.new w4 67 #[.slice P4.a L.targets.length P4.c, .slice Q4.a L.data.length Q4.c]
   have tk := blk2 t
   have hB_31 := hB.alloc hB.size (.cells #[.slice P4.a L.targets.length P4.c, .slice Q4.a L.data.length Q4.c] 67)
   have hd_32 := hd.below ((Below.refl _ _).alloc (Nat.le_refl _) (.cells #[.slice P4.a L.targets.length P4.c, .slice Q4.a L.data.length Q4.c] 67))
   have x_33 := x.alloc (.cells #[.slice P4.a L.targets.length P4.c, .slice Q4.a L.data.length Q4.c] 67)
   have xk_33 := blk11 x_33
   have xkf_33 := x_33.frozen
   have r_34 := r.alloc (.cells #[.slice P4.a L.targets.length P4.c, .slice Q4.a L.data.length Q4.c] 67)
   have rk_34 := blk11 r_34
   have rkf_34 := r_34.frozen
   have im_35 := im.below ((Below.refl _ _).alloc (Nat.le_refl _) (.cells #[.slice P4.a L.targets.length P4.c, .slice Q4.a L.data.length Q4.c] 67))
   have z_36 := z.alloc (.cells #[.slice P4.a L.targets.length P4.c, .slice Q4.a L.data.length Q4.c] 67)
   have zk_36 := blk2 z_36
   have y_37 := y.alloc (.cells #[.slice P4.a L.targets.length P4.c, .slice Q4.a L.data.length Q4.c] 67)
   have yk_37 := blk2 y_37
   have v_38 := v.alloc (.cells #[.slice P4.a L.targets.length P4.c, .slice Q4.a L.data.length Q4.c] 67)
   have vk_38 := blk2 v_38
   have i4_39 := i4.below ((Below.refl _ _).alloc (Nat.le_refl _) (.cells #[.slice P4.a L.targets.length P4.c, .slice Q4.a L.data.length Q4.c] 67))
   by_cases hp : ep = 0
   rotate_left
   · have n1 : (ep != 0) = true := bne_iff_ne.2 hp
     have Hr := hid (show Im.wipeIn ⟨D, g, h, ⟨seq, pos⟩, ms, false⟩ u true = (⟨D, g, h, ⟨seq, pos⟩, ms, false⟩, ep) by rw [HW2.out]; exact if_pos hp)
     clear HW2 Hdn
     have q_hrl2 := hrl2.out
     have q_hrl3 := hrl3.out
     have q_hrl4 := hrl4.out
     have hB_40 := below11 hB_31 (g := w.heap.size + 1) (by omega) (.string (bs D.data)) (.slice A1 D.cache.length a1) (.int .i64 D.fuse) (.bool D.off) (.slice A2 D.bad.length a2) (.int .i64 g) (.int .i64 h) (.int .u64 seq) (.int .i64 pos) (.slice R3 ms.length r3) (.bool false)
     have hd_41 := hd_32.off11 (g := w.heap.size + 1) (by first | assumption | omega) (.string (bs D.data)) (.slice A1 D.cache.length a1) (.int .i64 D.fuse) (.bool D.off) (.slice A2 D.bad.length a2) (.int .i64 g) (.int .i64 h) (.int .u64 seq) (.int .i64 pos) (.slice R3 ms.length r3) (.bool false)
     have x_42 := blk_off11 x_33 (g := w.heap.size + 1) (by omega) (.string (bs D.data)) (.slice A1 D.cache.length a1) (.int .i64 D.fuse) (.bool D.off) (.slice A2 D.bad.length a2) (.int .i64 g) (.int .i64 h) (.int .u64 seq) (.int .i64 pos) (.slice R3 ms.length r3) (.bool false)
     have xk_42 := blk11 x_42
     have xkf_42 := x_42.frozen
     have r_43 := blk_set11 r_34 (.string (bs D.data)) (.slice A1 D.cache.length a1) (.int .i64 D.fuse) (.bool D.off) (.slice A2 D.bad.length a2) (.int .i64 g) (.int .i64 h) (.int .u64 seq) (.int .i64 pos) (.slice R3 ms.length r3) (.bool false)
     have rk_43 := blk11 r_43
     have rkf_43 := r_43.frozen
     have im_44 := im_35.off11 (g := w.heap.size + 1) (by first | assumption | omega) (.string (bs D.data)) (.slice A1 D.cache.length a1) (.int .i64 D.fuse) (.bool D.off) (.slice A2 D.bad.length a2) (.int .i64 g) (.int .i64 h) (.int .u64 seq) (.int .i64 pos) (.slice R3 ms.length r3) (.bool false)
     have z_45 := blk_off11 z_36 (g := w.heap.size + 1) (by omega) (.string (bs D.data)) (.slice A1 D.cache.length a1) (.int .i64 D.fuse) (.bool D.off) (.slice A2 D.bad.length a2) (.int .i64 g) (.int .i64 h) (.int .u64 seq) (.int .i64 pos) (.slice R3 ms.length r3) (.bool false)
     have zk_45 := blk2 z_45
     have y_46 := blk_off11 y_37 (g := w.heap.size + 1) (by omega) (.string (bs D.data)) (.slice A1 D.cache.length a1) (.int .i64 D.fuse) (.bool D.off) (.slice A2 D.bad.length a2) (.int .i64 g) (.int .i64 h) (.int .u64 seq) (.int .i64 pos) (.slice R3 ms.length r3) (.bool false)
     have yk_46 := blk2 y_46
     have v_47 := blk_off11 v_38 (g := w.heap.size + 1) (by omega) (.string (bs D.data)) (.slice A1 D.cache.length a1) (.int .i64 D.fuse) (.bool D.off) (.slice A2 D.bad.length a2) (.int .i64 g) (.int .i64 h) (.int .u64 seq) (.int .i64 pos) (.slice R3 ms.length r3) (.bool false)
     have vk_47 := blk2 v_47
     have t_48 := blk_off11 t (g := w.heap.size + 1) (by omega) (.string (bs D.data)) (.slice A1 D.cache.length a1) (.int .i64 D.fuse) (.bool D.off) (.slice A2 D.bad.length a2) (.int .i64 g) (.int .i64 h) (.int .u64 seq) (.int .i64 pos) (.slice R3 ms.length r3) (.bool false)
     have tk_48 := blk2 t_48
     clear q_hrl2 q_hrl3 q_hrl4
     have yy := blk11 r_43
     have bw := hB_40
     have dw := hd_41
     have mw := im_44
     go_wp2_with fail
     refine bodyPost_ret (v := .tuple #[imval ⟨D, g, h, ⟨seq, pos⟩, ms, false⟩ ⟨A1, a1⟩ ⟨A2, a2⟩ ⟨R3, r3⟩, .int .i64 ep]) (by simp [results, Tryz.results41, go_sem, yy]) rfl ?_
     rw [Hr.out]
     exact ⟨⟨⟨A1, a1⟩, ⟨A2, a2⟩, ⟨R3, r3⟩, rfl, ⟨dw, mw⟩, fun g' h1 h2 => ⟨h2.1, OM.out g' h1 h2⟩⟩, bw⟩
   subst hp
   obtain ⟨⟨F, g9, h9, ⟨s9, o9⟩, m9, b9⟩, ed⟩ := DN
   have Hr := hid (show Im.wipeIn ⟨D, g, h, ⟨seq, pos⟩, ms, false⟩ u true = (⟨F, g9, h9, ⟨s9, o9⟩, m9, b9⟩, ed) by rw [HW2.out]; exact if_neg (by simp))
   clear HW2
   go_wp2_with fail
   go_at_call 40
   refine ((Hdn.out _ _ _ _ hd_32 im_35 i4_39)).mono ?_
   rintro e w5 ⟨⟨⟨P5, e5⟩, ⟨Q5, f5⟩, ⟨R5, g5⟩, rfl, i5, o5⟩, hb5⟩
   replace hB := bt hB_31 hb5
   replace hd := hd_32.below hb5
   replace x := x_33.below hb5 x_33.lt
   replace xk := blk11 x
   replace xkf := x.frozen
   replace r := r_34.below hb5 r_34.lt
   replace rk := blk11 r
   replace rkf := r.frozen
   replace im := im_35.below hb5
   replace z := z_36.below hb5 z_36.lt
   replace zk := blk2 z
   replace y := y_37.below hb5 y_37.lt
   replace yk := blk2 y
   replace v := v_38.below hb5 v_38.lt
   replace vk := blk2 v
   replace i4 := i4_39.below hb5
   replace t := t.below hb5 t.lt
   replace tk := blk2 t
   clear hB_31 hd_32 xk_33 xkf_33 x_33 rk_34 rkf_34 r_34 im_35 zk_36 z_36 yk_37 y_37 vk_38 v_38 i4_39
   have q_hrl2 := hrl2.out
   have q_hrl3 := hrl3.out
   have q_hrl4 := hrl4.out
   have or5 := o5 (w.heap.size + 1) (by simp only [World.size_alloc]; omega) ⟨ord, orm⟩
   have oF := or5.1
   have oM := or5.2
   have O5 := fun g' (h1 : g' < w.heap.size) h2 => o5 g' (by simp only [World.size_alloc]; omega) h2
   have i5d := i5.d
   have i5m := i5.m
   clear Hdn o5 i5 or5
   have hB_40 := below11 hB (g := w.heap.size + 1) (by omega) (.string (bs F.data)) (.slice P5 F.cache.length e5) (.int .i64 F.fuse) (.bool F.off) (.slice Q5 F.bad.length f5) (.int .i64 g9) (.int .i64 h9) (.int .u64 s9) (.int .i64 o9) (.slice R5 m9.length g5) (.bool b9)
   have x_41 := blk_off11 x (g := w.heap.size + 1) (by omega) (.string (bs F.data)) (.slice P5 F.cache.length e5) (.int .i64 F.fuse) (.bool F.off) (.slice Q5 F.bad.length f5) (.int .i64 g9) (.int .i64 h9) (.int .u64 s9) (.int .i64 o9) (.slice R5 m9.length g5) (.bool b9)
   have xk_41 := blk11 x_41
   have xkf_41 := x_41.frozen
   have r_42 := blk_set11 r (.string (bs F.data)) (.slice P5 F.cache.length e5) (.int .i64 F.fuse) (.bool F.off) (.slice Q5 F.bad.length f5) (.int .i64 g9) (.int .i64 h9) (.int .u64 s9) (.int .i64 o9) (.slice R5 m9.length g5) (.bool b9)
   have rk_42 := blk11 r_42
   have rkf_42 := r_42.frozen
   have z_43 := blk_off11 z (g := w.heap.size + 1) (by omega) (.string (bs F.data)) (.slice P5 F.cache.length e5) (.int .i64 F.fuse) (.bool F.off) (.slice Q5 F.bad.length f5) (.int .i64 g9) (.int .i64 h9) (.int .u64 s9) (.int .i64 o9) (.slice R5 m9.length g5) (.bool b9)
   have zk_43 := blk2 z_43
   have y_44 := blk_off11 y (g := w.heap.size + 1) (by omega) (.string (bs F.data)) (.slice P5 F.cache.length e5) (.int .i64 F.fuse) (.bool F.off) (.slice Q5 F.bad.length f5) (.int .i64 g9) (.int .i64 h9) (.int .u64 s9) (.int .i64 o9) (.slice R5 m9.length g5) (.bool b9)
   have yk_44 := blk2 y_44
   have v_45 := blk_off11 v (g := w.heap.size + 1) (by omega) (.string (bs F.data)) (.slice P5 F.cache.length e5) (.int .i64 F.fuse) (.bool F.off) (.slice Q5 F.bad.length f5) (.int .i64 g9) (.int .i64 h9) (.int .u64 s9) (.int .i64 o9) (.slice R5 m9.length g5) (.bool b9)
   have vk_45 := blk2 v_45
   have t_46 := blk_off11 t (g := w.heap.size + 1) (by omega) (.string (bs F.data)) (.slice P5 F.cache.length e5) (.int .i64 F.fuse) (.bool F.off) (.slice Q5 F.bad.length f5) (.int .i64 g9) (.int .i64 h9) (.int .u64 s9) (.int .i64 o9) (.slice R5 m9.length g5) (.bool b9)
   have tk_46 := blk2 t_46
   have i5d_47 := i5d.off11 (g := w.heap.size + 1) (by first | assumption | omega) (.string (bs F.data)) (.slice P5 F.cache.length e5) (.int .i64 F.fuse) (.bool F.off) (.slice Q5 F.bad.length f5) (.int .i64 g9) (.int .i64 h9) (.int .u64 s9) (.int .i64 o9) (.slice R5 m9.length g5) (.bool b9)
   have i5m_48 := i5m.off11 (g := w.heap.size + 1) (by first | assumption | omega) (.string (bs F.data)) (.slice P5 F.cache.length e5) (.int .i64 F.fuse) (.bool F.off) (.slice Q5 F.bad.length f5) (.int .i64 g9) (.int .i64 h9) (.int .u64 s9) (.int .i64 o9) (.slice R5 m9.length g5) (.bool b9)
   clear q_hrl2 q_hrl3 q_hrl4
   have yy := blk11 r_42
   have bw := hB_40
   have dw := i5d_47
   have mw := i5m_48
   go_wp2_with fail
   refine bodyPost_ret (v := .tuple #[imval ⟨F, g9, h9, ⟨s9, o9⟩, m9, b9⟩ ⟨P5, e5⟩ ⟨Q5, f5⟩ ⟨R5, g5⟩, .int .i64 ed]) (by simp [results, Tryz.results41, go_sem, yy]) rfl ?_
   rw [Hr.out]
   exact ⟨⟨⟨P5, e5⟩, ⟨Q5, f5⟩, ⟨R5, g5⟩, rfl, ⟨dw, mw⟩, fun g' h1 h2 => O5 g' h1 ⟨h2.1, OM.out g' h1 h2⟩⟩, bw⟩
set_option maxRecDepth 100000 in
set_option maxHeartbeats 4000000 in
theorem r14_wipe (x : Im) (p q r : Pl) (w : World) (hI : IsIm w x p q r) (ok : x.Ok) (u : Int) (hu64 : okInt u) :
 Calls Tryz.prog 41 #[imval x p q r, .int .i64 u, .bool true] w fun e w' => RetIm w.heap.size x p q r (x.wipe u true) e w' ∧ Below w.heap.size w w' := by
 by_cases hin : x.br = false ∧ 0 ≤ u ∧ u < x.g
 · exact r14_wipe_in x p q r w hI ok hin.1 u hin.2
 have or9 := hI.apart (g := w.heap.size + 1) (by omega)
 obtain ⟨hd, hm⟩ := hI
 unfold okInt at hu64
 clear ok
 obtain ⟨D, g, h, ⟨seq, pos⟩, maps, br⟩ := x
 simp only at hd hm or9 hin
 obtain ⟨A1, a1⟩ := p
 obtain ⟨A2, a2⟩ := q
 obtain ⟨A3, a3⟩ := r
 cases br with
 | true =>
  have Hr := hid (show Im.wipe ⟨D, g, h, ⟨seq, pos⟩, maps, true⟩ u true = (⟨D, g, h, ⟨seq, pos⟩, maps, true⟩, 24) from if_pos rfl)
  clear hin
  have hB := Below.refl w.heap.size w
  clear or9
  have x := Blk.new w 33 #[.string (bs D.data), .slice A1 D.cache.length a1, .int .i64 D.fuse, .bool D.off, .slice A2 D.bad.length a2, .int .i64 g, .int .i64 h, .int .u64 seq, .int .i64 pos, .slice A3 maps.length a3, .bool true]
  have xk := blk11 x
  have hB_1 := hB.alloc hB.size (.cells #[.string (bs D.data), .slice A1 D.cache.length a1, .int .i64 D.fuse, .bool D.off, .slice A2 D.bad.length a2, .int .i64 g, .int .i64 h, .int .u64 seq, .int .i64 pos, .slice A3 maps.length a3, .bool true] 33)
  have hd_2 := hd.below ((Below.refl _ _).alloc (Nat.le_refl _) (.cells #[.string (bs D.data), .slice A1 D.cache.length a1, .int .i64 D.fuse, .bool D.off, .slice A2 D.bad.length a2, .int .i64 g, .int .i64 h, .int .u64 seq, .int .i64 pos, .slice A3 maps.length a3, .bool true] 33))
  have hm_3 := hm.below ((Below.refl _ _).alloc (Nat.le_refl _) (.cells #[.string (bs D.data), .slice A1 D.cache.length a1, .int .i64 D.fuse, .bool D.off, .slice A2 D.bad.length a2, .int .i64 g, .int .i64 h, .int .u64 seq, .int .i64 pos, .slice A3 maps.length a3, .bool true] 33))
  have r := Blk.new (w.alloc (.cells #[.string (bs D.data), .slice A1 D.cache.length a1, .int .i64 D.fuse, .bool D.off, .slice A2 D.bad.length a2, .int .i64 g, .int .i64 h, .int .u64 seq, .int .i64 pos, .slice A3 maps.length a3, .bool true] 33)) 33 #[.string (bs D.data), .slice A1 D.cache.length a1, .int .i64 D.fuse, .bool D.off, .slice A2 D.bad.length a2, .int .i64 g, .int .i64 h, .int .u64 seq, .int .i64 pos, .slice A3 maps.length a3, .bool true]
  simp only [World.size_alloc] at r
  have rk := blk11 r
  have hB_4 := hB_1.alloc hB_1.size (.cells #[.string (bs D.data), .slice A1 D.cache.length a1, .int .i64 D.fuse, .bool D.off, .slice A2 D.bad.length a2, .int .i64 g, .int .i64 h, .int .u64 seq, .int .i64 pos, .slice A3 maps.length a3, .bool true] 33)
  have hd_5 := hd_2.below ((Below.refl _ _).alloc (Nat.le_refl _) (.cells #[.string (bs D.data), .slice A1 D.cache.length a1, .int .i64 D.fuse, .bool D.off, .slice A2 D.bad.length a2, .int .i64 g, .int .i64 h, .int .u64 seq, .int .i64 pos, .slice A3 maps.length a3, .bool true] 33))
  have hm_6 := hm_3.below ((Below.refl _ _).alloc (Nat.le_refl _) (.cells #[.string (bs D.data), .slice A1 D.cache.length a1, .int .i64 D.fuse, .bool D.off, .slice A2 D.bad.length a2, .int .i64 g, .int .i64 h, .int .u64 seq, .int .i64 pos, .slice A3 maps.length a3, .bool true] 33))
  have x_7 := x.alloc (.cells #[.string (bs D.data), .slice A1 D.cache.length a1, .int .i64 D.fuse, .bool D.off, .slice A2 D.bad.length a2, .int .i64 g, .int .i64 h, .int .u64 seq, .int .i64 pos, .slice A3 maps.length a3, .bool true] 33)
  have xk_7 := blk11 x_7
  have yy := rk
  have bw := hB_4
  have dw := hd_5
  have mw := hm_6
  go_enter Tryz.func41, Tryz.ntmps41
  go_wp2_with fail
  refine bodyPost_ret (v := .tuple #[imval ⟨D, g, h, ⟨seq, pos⟩, maps, true⟩ ⟨A1, a1⟩ ⟨A2, a2⟩ ⟨A3, a3⟩, .int .i64 24]) (by simp [results, Tryz.results41, go_sem, yy]) rfl ?_
  rw [Hr.out]
  exact ⟨⟨⟨A1, a1⟩, ⟨A2, a2⟩, ⟨A3, a3⟩, rfl, ⟨dw, mw⟩, fun _ _ h => h⟩, bw⟩
 | false =>
  have hb : u < 0 ∨ g ≤ u := by
   rcases Int.lt_or_le u 0 with h1 | h1
   · exact .inl h1
   · exact .inr (by
      rcases Int.lt_or_le u g with h2 | h2
      · exact absurd ⟨rfl, h1, h2⟩ hin
      · exact h2)
  by_cases h0 : u < 0
  · skip
    have Hr := hid (show Im.wipe ⟨D, g, h, ⟨seq, pos⟩, maps, false⟩ u true = (⟨D, g, h, ⟨seq, pos⟩, maps, false⟩, 10) from (if_neg (by simp)).trans (if_pos hb))
    have t1 : decide (u < 0) = true := decide_eq_true (by omega)
    clear hin hb
    have hB := Below.refl w.heap.size w
    clear or9
    have x := Blk.new w 33 #[.string (bs D.data), .slice A1 D.cache.length a1, .int .i64 D.fuse, .bool D.off, .slice A2 D.bad.length a2, .int .i64 g, .int .i64 h, .int .u64 seq, .int .i64 pos, .slice A3 maps.length a3, .bool false]
    have xk := blk11 x
    have hB_1 := hB.alloc hB.size (.cells #[.string (bs D.data), .slice A1 D.cache.length a1, .int .i64 D.fuse, .bool D.off, .slice A2 D.bad.length a2, .int .i64 g, .int .i64 h, .int .u64 seq, .int .i64 pos, .slice A3 maps.length a3, .bool false] 33)
    have hd_2 := hd.below ((Below.refl _ _).alloc (Nat.le_refl _) (.cells #[.string (bs D.data), .slice A1 D.cache.length a1, .int .i64 D.fuse, .bool D.off, .slice A2 D.bad.length a2, .int .i64 g, .int .i64 h, .int .u64 seq, .int .i64 pos, .slice A3 maps.length a3, .bool false] 33))
    have hm_3 := hm.below ((Below.refl _ _).alloc (Nat.le_refl _) (.cells #[.string (bs D.data), .slice A1 D.cache.length a1, .int .i64 D.fuse, .bool D.off, .slice A2 D.bad.length a2, .int .i64 g, .int .i64 h, .int .u64 seq, .int .i64 pos, .slice A3 maps.length a3, .bool false] 33))
    have r := Blk.new (w.alloc (.cells #[.string (bs D.data), .slice A1 D.cache.length a1, .int .i64 D.fuse, .bool D.off, .slice A2 D.bad.length a2, .int .i64 g, .int .i64 h, .int .u64 seq, .int .i64 pos, .slice A3 maps.length a3, .bool false] 33)) 33 #[.string (bs D.data), .slice A1 D.cache.length a1, .int .i64 D.fuse, .bool D.off, .slice A2 D.bad.length a2, .int .i64 g, .int .i64 h, .int .u64 seq, .int .i64 pos, .slice A3 maps.length a3, .bool false]
    simp only [World.size_alloc] at r
    have rk := blk11 r
    have hB_4 := hB_1.alloc hB_1.size (.cells #[.string (bs D.data), .slice A1 D.cache.length a1, .int .i64 D.fuse, .bool D.off, .slice A2 D.bad.length a2, .int .i64 g, .int .i64 h, .int .u64 seq, .int .i64 pos, .slice A3 maps.length a3, .bool false] 33)
    have hd_5 := hd_2.below ((Below.refl _ _).alloc (Nat.le_refl _) (.cells #[.string (bs D.data), .slice A1 D.cache.length a1, .int .i64 D.fuse, .bool D.off, .slice A2 D.bad.length a2, .int .i64 g, .int .i64 h, .int .u64 seq, .int .i64 pos, .slice A3 maps.length a3, .bool false] 33))
    have hm_6 := hm_3.below ((Below.refl _ _).alloc (Nat.le_refl _) (.cells #[.string (bs D.data), .slice A1 D.cache.length a1, .int .i64 D.fuse, .bool D.off, .slice A2 D.bad.length a2, .int .i64 g, .int .i64 h, .int .u64 seq, .int .i64 pos, .slice A3 maps.length a3, .bool false] 33))
    have x_7 := x.alloc (.cells #[.string (bs D.data), .slice A1 D.cache.length a1, .int .i64 D.fuse, .bool D.off, .slice A2 D.bad.length a2, .int .i64 g, .int .i64 h, .int .u64 seq, .int .i64 pos, .slice A3 maps.length a3, .bool false] 33)
    have xk_7 := blk11 x_7
    have yy := rk
    have bw := hB_4
    have dw := hd_5
    have mw := hm_6
    go_enter Tryz.func41, Tryz.ntmps41
    go_wp2_with fail
    refine bodyPost_ret (v := .tuple #[imval ⟨D, g, h, ⟨seq, pos⟩, maps, false⟩ ⟨A1, a1⟩ ⟨A2, a2⟩ ⟨A3, a3⟩, .int .i64 10]) (by simp [results, Tryz.results41, go_sem, yy]) rfl ?_
    rw [Hr.out]
    exact ⟨⟨⟨A1, a1⟩, ⟨A2, a2⟩, ⟨A3, a3⟩, rfl, ⟨dw, mw⟩, fun _ _ h => h⟩, bw⟩
  · skip
    have Hr := hid (show Im.wipe ⟨D, g, h, ⟨seq, pos⟩, maps, false⟩ u true = (⟨D, g, h, ⟨seq, pos⟩, maps, false⟩, 10) from (if_neg (by simp)).trans (if_pos hb))
    have t2 : decide (u < 0) = false := decide_eq_false (by omega)
    have t3 : decide (g ≤ u) = true := decide_eq_true (by omega)
    clear hin hb
    have hB := Below.refl w.heap.size w
    clear or9
    have x := Blk.new w 33 #[.string (bs D.data), .slice A1 D.cache.length a1, .int .i64 D.fuse, .bool D.off, .slice A2 D.bad.length a2, .int .i64 g, .int .i64 h, .int .u64 seq, .int .i64 pos, .slice A3 maps.length a3, .bool false]
    have xk := blk11 x
    have hB_1 := hB.alloc hB.size (.cells #[.string (bs D.data), .slice A1 D.cache.length a1, .int .i64 D.fuse, .bool D.off, .slice A2 D.bad.length a2, .int .i64 g, .int .i64 h, .int .u64 seq, .int .i64 pos, .slice A3 maps.length a3, .bool false] 33)
    have hd_2 := hd.below ((Below.refl _ _).alloc (Nat.le_refl _) (.cells #[.string (bs D.data), .slice A1 D.cache.length a1, .int .i64 D.fuse, .bool D.off, .slice A2 D.bad.length a2, .int .i64 g, .int .i64 h, .int .u64 seq, .int .i64 pos, .slice A3 maps.length a3, .bool false] 33))
    have hm_3 := hm.below ((Below.refl _ _).alloc (Nat.le_refl _) (.cells #[.string (bs D.data), .slice A1 D.cache.length a1, .int .i64 D.fuse, .bool D.off, .slice A2 D.bad.length a2, .int .i64 g, .int .i64 h, .int .u64 seq, .int .i64 pos, .slice A3 maps.length a3, .bool false] 33))
    have r := Blk.new (w.alloc (.cells #[.string (bs D.data), .slice A1 D.cache.length a1, .int .i64 D.fuse, .bool D.off, .slice A2 D.bad.length a2, .int .i64 g, .int .i64 h, .int .u64 seq, .int .i64 pos, .slice A3 maps.length a3, .bool false] 33)) 33 #[.string (bs D.data), .slice A1 D.cache.length a1, .int .i64 D.fuse, .bool D.off, .slice A2 D.bad.length a2, .int .i64 g, .int .i64 h, .int .u64 seq, .int .i64 pos, .slice A3 maps.length a3, .bool false]
    simp only [World.size_alloc] at r
    have rk := blk11 r
    have hB_4 := hB_1.alloc hB_1.size (.cells #[.string (bs D.data), .slice A1 D.cache.length a1, .int .i64 D.fuse, .bool D.off, .slice A2 D.bad.length a2, .int .i64 g, .int .i64 h, .int .u64 seq, .int .i64 pos, .slice A3 maps.length a3, .bool false] 33)
    have hd_5 := hd_2.below ((Below.refl _ _).alloc (Nat.le_refl _) (.cells #[.string (bs D.data), .slice A1 D.cache.length a1, .int .i64 D.fuse, .bool D.off, .slice A2 D.bad.length a2, .int .i64 g, .int .i64 h, .int .u64 seq, .int .i64 pos, .slice A3 maps.length a3, .bool false] 33))
    have hm_6 := hm_3.below ((Below.refl _ _).alloc (Nat.le_refl _) (.cells #[.string (bs D.data), .slice A1 D.cache.length a1, .int .i64 D.fuse, .bool D.off, .slice A2 D.bad.length a2, .int .i64 g, .int .i64 h, .int .u64 seq, .int .i64 pos, .slice A3 maps.length a3, .bool false] 33))
    have x_7 := x.alloc (.cells #[.string (bs D.data), .slice A1 D.cache.length a1, .int .i64 D.fuse, .bool D.off, .slice A2 D.bad.length a2, .int .i64 g, .int .i64 h, .int .u64 seq, .int .i64 pos, .slice A3 maps.length a3, .bool false] 33)
    have xk_7 := blk11 x_7
    have yy := rk
    have bw := hB_4
    have dw := hd_5
    have mw := hm_6
    go_enter Tryz.func41, Tryz.ntmps41
    go_wp2_with fail
    refine bodyPost_ret (v := .tuple #[imval ⟨D, g, h, ⟨seq, pos⟩, maps, false⟩ ⟨A1, a1⟩ ⟨A2, a2⟩ ⟨A3, a3⟩, .int .i64 10]) (by simp [results, Tryz.results41, go_sem, yy]) rfl ?_
    rw [Hr.out]
    exact ⟨⟨⟨A1, a1⟩, ⟨A2, a2⟩, ⟨A3, a3⟩, rfl, ⟨dw, mw⟩, fun _ _ h => h⟩, bw⟩
end Go.Proofs.YtlapjkbefkmohaaGreat
