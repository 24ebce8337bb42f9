/- Package ref13: images behind a plan that is made to last; marks; clusters read. -/
import Derived.Test.YtlapjkbefkmohaaGreatSdImg9
import Derived.Test.YtlapjkbefkmohaaGreatSdJour4
import Derived.Test.YtlapjkbefkmohaaGreatSdTable5
set_option linter.unusedVariables false
namespace Go.Proofs.YtlapjkbefkmohaaGreat
open Go.RowKit Go.Shelf
attribute [local go_sem] bs_mk bs_append bs_extract bs_size bs_toList bs_get
set_option maxRecDepth 100000 in
set_option maxHeartbeats 2000000 in
theorem r13_done (x : Im) (L : Pn) (p q r p' q' : Pl) (w : World) (hI : IsIm w x p q r) (hL : IsPn w L p' q') (ok : x.Ok) (hfl : L.Fit) :
 Calls Tryz.prog 40 #[imval x p q r, pval L p' q'] w fun e w' => RetIm w.heap.size x p q r (x.done L) e w' ∧ Below w.heap.size w w' := by
 have hc := fun (W : World) (hb : Below w.heap.size w W) => r7_commit x.d x.j L p q p' q' W (hI.d.below hb) (hL.below hb) ok.d hfl (by have := ok.seq; omega) ok.pos
 have hap := fun g (hg : w.heap.size ≤ g) => hI.apart hg
 have HD := hid (show x.done L = if (jrCommit x.d x.j L).2.2 ≠ 0 then ({ x with d := (jrCommit x.d x.j L).1, br := true }, (jrCommit x.d x.j L).2.2) else ({ x with d := (jrCommit x.d x.j L).1, j := (jrCommit x.d x.j L).2.1 }, 0) from rfl)
 generalize jrCommit x.d x.j L = X at hc HD
 obtain ⟨E, j, er⟩ := X
 have hm := hI.m
 clear hI hL ok hfl
 obtain ⟨D, g, h, ⟨seq, pos⟩, maps, br⟩ := x
 obtain ⟨js, jp⟩ := j
 simp only at hc HD hap hm
 obtain ⟨A1, a1⟩ := p
 obtain ⟨A2, a2⟩ := q
 obtain ⟨A3, a3⟩ := r
 obtain ⟨B1, b1⟩ := p'
 obtain ⟨B2, b2⟩ := q'
 have hB := Below.refl w.heap.size w
 have x := Blk.new w 33 #[.string (bs D.data), .slice A1 D.cache.length a1, .int .i64 D.fuse, .bool D.off, .slice A2 D.bad.length a2, .int .i64 g, .int .i64 h, .int .u64 seq, .int .i64 pos, .slice A3 maps.length a3, .bool br]
 have xk := blk11 x
 have xkf := x.frozen
 have hB_1 := hB.alloc hB.size (.cells #[.string (bs D.data), .slice A1 D.cache.length a1, .int .i64 D.fuse, .bool D.off, .slice A2 D.bad.length a2, .int .i64 g, .int .i64 h, .int .u64 seq, .int .i64 pos, .slice A3 maps.length a3, .bool br] 33)
 have hm_2 := hm.below ((Below.refl _ _).alloc (Nat.le_refl _) (.cells #[.string (bs D.data), .slice A1 D.cache.length a1, .int .i64 D.fuse, .bool D.off, .slice A2 D.bad.length a2, .int .i64 g, .int .i64 h, .int .u64 seq, .int .i64 pos, .slice A3 maps.length a3, .bool br] 33))
 have z := Blk.new (w.alloc (.cells #[.string (bs D.data), .slice A1 D.cache.length a1, .int .i64 D.fuse, .bool D.off, .slice A2 D.bad.length a2, .int .i64 g, .int .i64 h, .int .u64 seq, .int .i64 pos, .slice A3 maps.length a3, .bool br] 33)) 67 #[.slice B1 L.targets.length b1, .slice B2 L.data.length b2]
 simp only [World.size_alloc] at z
 have zk := blk2 z
 have hB_3 := hB_1.alloc hB_1.size (.cells #[.slice B1 L.targets.length b1, .slice B2 L.data.length b2] 67)
 have hm_4 := hm_2.below ((Below.refl _ _).alloc (Nat.le_refl _) (.cells #[.slice B1 L.targets.length b1, .slice B2 L.data.length b2] 67))
 have x_5 := x.alloc (.cells #[.slice B1 L.targets.length b1, .slice B2 L.data.length b2] 67)
 have xk_5 := blk11 x_5
 have xkf_5 := x_5.frozen
 have r := Blk.new ((w.alloc (.cells #[.string (bs D.data), .slice A1 D.cache.length a1, .int .i64 D.fuse, .bool D.off, .slice A2 D.bad.length a2, .int .i64 g, .int .i64 h, .int .u64 seq, .int .i64 pos, .slice A3 maps.length a3, .bool br] 33)).alloc (.cells #[.slice B1 L.targets.length b1, .slice B2 L.data.length b2] 67)) 33 #[.string (bs []), .slice none 0 0, .int .i64 0, .bool false, .slice none 0 0, .int .i64 0, .int .i64 0, .int .u64 0, .int .i64 0, .slice none 0 0, .bool false]
 simp only [World.size_alloc] at r
 have rk := blk11 r
 have rkf := r.frozen
 have hB_6 := hB_3.alloc hB_3.size (.cells #[.string (bs []), .slice none 0 0, .int .i64 0, .bool false, .slice none 0 0, .int .i64 0, .int .i64 0, .int .u64 0, .int .i64 0, .slice none 0 0, .bool false] 33)
 have hm_7 := hm_4.below ((Below.refl _ _).alloc (Nat.le_refl _) (.cells #[.string (bs []), .slice none 0 0, .int .i64 0, .bool false, .slice none 0 0, .int .i64 0, .int .i64 0, .int .u64 0, .int .i64 0, .slice none 0 0, .bool false] 33))
 have x_8 := x_5.alloc (.cells #[.string (bs []), .slice none 0 0, .int .i64 0, .bool false, .slice none 0 0, .int .i64 0, .int .i64 0, .int .u64 0, .int .i64 0, .slice none 0 0, .bool false] 33)
 have xk_8 := blk11 x_8
 have xkf_8 := x_8.frozen
 have z_9 := z.alloc (.cells #[.string (bs []), .slice none 0 0, .int .i64 0, .bool false, .slice none 0 0, .int .i64 0, .int .i64 0, .int .u64 0, .int .i64 0, .slice none 0 0, .bool false] 33)
 have zk_9 := blk2 z_9
 go_enter Tryz.func40, Tryz.ntmps40
 go_wp2_with fail
 go_at_call 73
 refine ((hc _ hB_6)).mono ?_
 rintro e w1 ⟨⟨⟨P1, e1⟩, ⟨Q1, f1⟩, rfl, d1, o1⟩, hb1⟩
 replace hB := bt hB_6 hb1
 replace hm := hm_7.below hb1
 replace x := x_8.below hb1 x_8.lt
 replace xk := blk11 x
 replace xkf := x.frozen
 replace z := z_9.below hb1 z_9.lt
 replace zk := blk2 z
 replace r := r.below hb1 r.lt
 replace rk := blk11 r
 replace rkf := r.frozen
 clear hB_1 hm_2 hB_3 hm_4 xk_5 xkf_5 x_5 hB_6 hm_7 xk_8 xkf_8 x_8 zk_9 z_9
 have hrl := r.lt
 have ox0 := (hap w.heap.size (Nat.le_refl _))
 have or0 := (hap (w.heap.size + 1 + 1) (by omega))
 have mx := ox0.2
 have mr := or0.2
 have dx := o1 w.heap.size (by simp only [World.size_alloc]; omega) ox0.1
 have dr := o1 (w.heap.size + 1 + 1) (by simp only [World.size_alloc]; omega) or0.1
 have O1 := fun g (h1 : g < w.heap.size) (h2 : DkOff g D ⟨A1, a1⟩ ⟨A2, a2⟩) => o1 g (by simp only [World.size_alloc]; omega) h2
 clear o1 ox0 or0
 have u := Blk.new w1 25 #[.string (bs E.data), .slice P1 E.cache.length e1, .int .i64 E.fuse, .bool E.off, .slice Q1 E.bad.length f1]
 have uk := blk5 u
 have hB_10 := hB.alloc hB.size (.cells #[.string (bs E.data), .slice P1 E.cache.length e1, .int .i64 E.fuse, .bool E.off, .slice Q1 E.bad.length f1] 25)
 have hm_11 := hm.below ((Below.refl _ _).alloc (Nat.le_refl _) (.cells #[.string (bs E.data), .slice P1 E.cache.length e1, .int .i64 E.fuse, .bool E.off, .slice Q1 E.bad.length f1] 25))
 have x_12 := x.alloc (.cells #[.string (bs E.data), .slice P1 E.cache.length e1, .int .i64 E.fuse, .bool E.off, .slice Q1 E.bad.length f1] 25)
 have xk_12 := blk11 x_12
 have xkf_12 := x_12.frozen
 have z_13 := z.alloc (.cells #[.string (bs E.data), .slice P1 E.cache.length e1, .int .i64 E.fuse, .bool E.off, .slice Q1 E.bad.length f1] 25)
 have zk_13 := blk2 z_13
 have r_14 := r.alloc (.cells #[.string (bs E.data), .slice P1 E.cache.length e1, .int .i64 E.fuse, .bool E.off, .slice Q1 E.bad.length f1] 25)
 have rk_14 := blk11 r_14
 have rkf_14 := r_14.frozen
 have d1_15 := d1.below ((Below.refl _ _).alloc (Nat.le_refl _) (.cells #[.string (bs E.data), .slice P1 E.cache.length e1, .int .i64 E.fuse, .bool E.off, .slice Q1 E.bad.length f1] 25))
 have v := Blk.new (w1.alloc (.cells #[.string (bs E.data), .slice P1 E.cache.length e1, .int .i64 E.fuse, .bool E.off, .slice Q1 E.bad.length f1] 25)) 30 #[.int .u64 js, .int .i64 jp]
 simp only [World.size_alloc] at v
 have vk := blk2 v
 have hB_16 := hB_10.alloc hB_10.size (.cells #[.int .u64 js, .int .i64 jp] 30)
 have hm_17 := hm_11.below ((Below.refl _ _).alloc (Nat.le_refl _) (.cells #[.int .u64 js, .int .i64 jp] 30))
 have x_18 := x_12.alloc (.cells #[.int .u64 js, .int .i64 jp] 30)
 have xk_18 := blk11 x_18
 have xkf_18 := x_18.frozen
 have z_19 := z_13.alloc (.cells #[.int .u64 js, .int .i64 jp] 30)
 have zk_19 := blk2 z_19
 have r_20 := r_14.alloc (.cells #[.int .u64 js, .int .i64 jp] 30)
 have rk_20 := blk11 r_20
 have rkf_20 := r_20.frozen
 have d1_21 := d1_15.below ((Below.refl _ _).alloc (Nat.le_refl _) (.cells #[.int .u64 js, .int .i64 jp] 30))
 have u_22 := u.alloc (.cells #[.int .u64 js, .int .i64 jp] 30)
 have uk_22 := blk5 u_22
 have hB_23 := (((((hB_16).setCell (p := ⟨w.heap.size, 0, none⟩) (by show _ ≤ (w.heap.size : Nat); omega) (.string (bs E.data))).setCell (p := ⟨w.heap.size, 1, none⟩) (by show _ ≤ (w.heap.size : Nat); omega) (.slice P1 E.cache.length e1)).setCell (p := ⟨w.heap.size, 2, none⟩) (by show _ ≤ (w.heap.size : Nat); omega) (.int .i64 E.fuse)).setCell (p := ⟨w.heap.size, 3, none⟩) (by show _ ≤ (w.heap.size : Nat); omega) (.bool E.off)).setCell (p := ⟨w.heap.size, 4, none⟩) (by show _ ≤ (w.heap.size : Nat); omega) (.slice Q1 E.bad.length f1)
 have hm_24 := (((((hm_17).off (a := ⟨w.heap.size, 0, none⟩) (by first | assumption | omega) (.string (bs E.data))).off (a := ⟨w.heap.size, 1, none⟩) (by first | assumption | omega) (.slice P1 E.cache.length e1)).off (a := ⟨w.heap.size, 2, none⟩) (by first | assumption | omega) (.int .i64 E.fuse)).off (a := ⟨w.heap.size, 3, none⟩) (by first | assumption | omega) (.bool E.off)).off (a := ⟨w.heap.size, 4, none⟩) (by first | assumption | omega) (.slice Q1 E.bad.length f1)
 have x_25 := (((((x_18).set 0 (.string (bs E.data))).set 1 (.slice P1 E.cache.length e1)).set 2 (.int .i64 E.fuse)).set 3 (.bool E.off)).set 4 (.slice Q1 E.bad.length f1)
 simp only [List.setIfInBounds_toArray, List.set_cons_zero, List.set_cons_succ] at x_25
 have xk_25 := blk11 x_25
 have xkf_25 := x_25.frozen
 have z_26 := (((((z_19).other (a := ⟨w.heap.size, 0, none⟩) (by show _ ≠ (w.heap.size : Nat); omega) (.string (bs E.data))).other (a := ⟨w.heap.size, 1, none⟩) (by show _ ≠ (w.heap.size : Nat); omega) (.slice P1 E.cache.length e1)).other (a := ⟨w.heap.size, 2, none⟩) (by show _ ≠ (w.heap.size : Nat); omega) (.int .i64 E.fuse)).other (a := ⟨w.heap.size, 3, none⟩) (by show _ ≠ (w.heap.size : Nat); omega) (.bool E.off)).other (a := ⟨w.heap.size, 4, none⟩) (by show _ ≠ (w.heap.size : Nat); omega) (.slice Q1 E.bad.length f1)
 have zk_26 := blk2 z_26
 have r_27 := (((((r_20).other (a := ⟨w.heap.size, 0, none⟩) (by show _ ≠ (w.heap.size : Nat); omega) (.string (bs E.data))).other (a := ⟨w.heap.size, 1, none⟩) (by show _ ≠ (w.heap.size : Nat); omega) (.slice P1 E.cache.length e1)).other (a := ⟨w.heap.size, 2, none⟩) (by show _ ≠ (w.heap.size : Nat); omega) (.int .i64 E.fuse)).other (a := ⟨w.heap.size, 3, none⟩) (by show _ ≠ (w.heap.size : Nat); omega) (.bool E.off)).other (a := ⟨w.heap.size, 4, none⟩) (by show _ ≠ (w.heap.size : Nat); omega) (.slice Q1 E.bad.length f1)
 have rk_27 := blk11 r_27
 have rkf_27 := r_27.frozen
 have d1_28 := (((((d1_21).off (a := ⟨w.heap.size, 0, none⟩) (by first | assumption | omega) (.string (bs E.data))).off (a := ⟨w.heap.size, 1, none⟩) (by first | assumption | omega) (.slice P1 E.cache.length e1)).off (a := ⟨w.heap.size, 2, none⟩) (by first | assumption | omega) (.int .i64 E.fuse)).off (a := ⟨w.heap.size, 3, none⟩) (by first | assumption | omega) (.bool E.off)).off (a := ⟨w.heap.size, 4, none⟩) (by first | assumption | omega) (.slice Q1 E.bad.length f1)
 have u_29 := (((((u_22).other (a := ⟨w.heap.size, 0, none⟩) (by show _ ≠ (w.heap.size : Nat); omega) (.string (bs E.data))).other (a := ⟨w.heap.size, 1, none⟩) (by show _ ≠ (w.heap.size : Nat); omega) (.slice P1 E.cache.length e1)).other (a := ⟨w.heap.size, 2, none⟩) (by show _ ≠ (w.heap.size : Nat); omega) (.int .i64 E.fuse)).other (a := ⟨w.heap.size, 3, none⟩) (by show _ ≠ (w.heap.size : Nat); omega) (.bool E.off)).other (a := ⟨w.heap.size, 4, none⟩) (by show _ ≠ (w.heap.size : Nat); omega) (.slice Q1 E.bad.length f1)
 have uk_29 := blk5 u_29
 have v_30 := (((((v).other (a := ⟨w.heap.size, 0, none⟩) (by show _ ≠ (w.heap.size : Nat); omega) (.string (bs E.data))).other (a := ⟨w.heap.size, 1, none⟩) (by show _ ≠ (w.heap.size : Nat); omega) (.slice P1 E.cache.length e1)).other (a := ⟨w.heap.size, 2, none⟩) (by show _ ≠ (w.heap.size : Nat); omega) (.int .i64 E.fuse)).other (a := ⟨w.heap.size, 3, none⟩) (by show _ ≠ (w.heap.size : Nat); omega) (.bool E.off)).other (a := ⟨w.heap.size, 4, none⟩) (by show _ ≠ (w.heap.size : Nat); omega) (.slice Q1 E.bad.length f1)
 have vk_30 := blk2 v_30
 by_cases he : er = 0
 · subst he
   have Hr := hid (show Im.done ⟨D, g, h, ⟨seq, pos⟩, maps, br⟩ L = (⟨E, g, h, ⟨js, jp⟩, maps, br⟩, 0) by rw [HD.out]; exact if_neg (by simp))
   clear HD hc hap
   have hB_31 := ((hB_23).setCell (p := ⟨w.heap.size, 7, none⟩) (by show _ ≤ (w.heap.size : Nat); omega) (.int .u64 js)).setCell (p := ⟨w.heap.size, 8, none⟩) (by show _ ≤ (w.heap.size : Nat); omega) (.int .i64 jp)
   have hm_32 := ((hm_24).off (a := ⟨w.heap.size, 7, none⟩) (by first | assumption | omega) (.int .u64 js)).off (a := ⟨w.heap.size, 8, none⟩) (by first | assumption | omega) (.int .i64 jp)
   have x_33 := ((x_25).set 7 (.int .u64 js)).set 8 (.int .i64 jp)
   simp only [List.setIfInBounds_toArray, List.set_cons_zero, List.set_cons_succ] at x_33
   have xk_33 := blk11 x_33
   have xkf_33 := x_33.frozen
   have z_34 := ((z_26).other (a := ⟨w.heap.size, 7, none⟩) (by show _ ≠ (w.heap.size : Nat); omega) (.int .u64 js)).other (a := ⟨w.heap.size, 8, none⟩) (by show _ ≠ (w.heap.size : Nat); omega) (.int .i64 jp)
   have zk_34 := blk2 z_34
   have r_35 := ((r_27).other (a := ⟨w.heap.size, 7, none⟩) (by show _ ≠ (w.heap.size : Nat); omega) (.int .u64 js)).other (a := ⟨w.heap.size, 8, none⟩) (by show _ ≠ (w.heap.size : Nat); omega) (.int .i64 jp)
   have rk_35 := blk11 r_35
   have rkf_35 := r_35.frozen
   have d1_36 := ((d1_28).off (a := ⟨w.heap.size, 7, none⟩) (by first | assumption | omega) (.int .u64 js)).off (a := ⟨w.heap.size, 8, none⟩) (by first | assumption | omega) (.int .i64 jp)
   have u_37 := ((u_29).other (a := ⟨w.heap.size, 7, none⟩) (by show _ ≠ (w.heap.size : Nat); omega) (.int .u64 js)).other (a := ⟨w.heap.size, 8, none⟩) (by show _ ≠ (w.heap.size : Nat); omega) (.int .i64 jp)
   have uk_37 := blk5 u_37
   have v_38 := ((v_30).other (a := ⟨w.heap.size, 7, none⟩) (by show _ ≠ (w.heap.size : Nat); omega) (.int .u64 js)).other (a := ⟨w.heap.size, 8, none⟩) (by show _ ≠ (w.heap.size : Nat); omega) (.int .i64 jp)
   have vk_38 := blk2 v_38
   have hB_39 := below11 hB_31 (g := w.heap.size + 1 + 1) (by omega) (.string (bs E.data)) (.slice P1 E.cache.length e1) (.int .i64 E.fuse) (.bool E.off) (.slice Q1 E.bad.length f1) (.int .i64 g) (.int .i64 h) (.int .u64 js) (.int .i64 jp) (.slice A3 maps.length a3) (.bool br)
   have hm_40 := hm_32.off11 (g := w.heap.size + 1 + 1) (by first | assumption | omega) (.string (bs E.data)) (.slice P1 E.cache.length e1) (.int .i64 E.fuse) (.bool E.off) (.slice Q1 E.bad.length f1) (.int .i64 g) (.int .i64 h) (.int .u64 js) (.int .i64 jp) (.slice A3 maps.length a3) (.bool br)
   have x_41 := blk_off11 x_33 (g := w.heap.size + 1 + 1) (by omega) (.string (bs E.data)) (.slice P1 E.cache.length e1) (.int .i64 E.fuse) (.bool E.off) (.slice Q1 E.bad.length f1) (.int .i64 g) (.int .i64 h) (.int .u64 js) (.int .i64 jp) (.slice A3 maps.length a3) (.bool br)
   have xk_41 := blk11 x_41
   have xkf_41 := x_41.frozen
   have z_42 := blk_off11 z_34 (g := w.heap.size + 1 + 1) (by omega) (.string (bs E.data)) (.slice P1 E.cache.length e1) (.int .i64 E.fuse) (.bool E.off) (.slice Q1 E.bad.length f1) (.int .i64 g) (.int .i64 h) (.int .u64 js) (.int .i64 jp) (.slice A3 maps.length a3) (.bool br)
   have zk_42 := blk2 z_42
   have r_43 := blk_set11 r_35 (.string (bs E.data)) (.slice P1 E.cache.length e1) (.int .i64 E.fuse) (.bool E.off) (.slice Q1 E.bad.length f1) (.int .i64 g) (.int .i64 h) (.int .u64 js) (.int .i64 jp) (.slice A3 maps.length a3) (.bool br)
   have rk_43 := blk11 r_43
   have rkf_43 := r_43.frozen
   have d1_44 := d1_36.off11 (g := w.heap.size + 1 + 1) (by first | assumption | omega) (.string (bs E.data)) (.slice P1 E.cache.length e1) (.int .i64 E.fuse) (.bool E.off) (.slice Q1 E.bad.length f1) (.int .i64 g) (.int .i64 h) (.int .u64 js) (.int .i64 jp) (.slice A3 maps.length a3) (.bool br)
   have u_45 := blk_off11 u_37 (g := w.heap.size + 1 + 1) (by omega) (.string (bs E.data)) (.slice P1 E.cache.length e1) (.int .i64 E.fuse) (.bool E.off) (.slice Q1 E.bad.length f1) (.int .i64 g) (.int .i64 h) (.int .u64 js) (.int .i64 jp) (.slice A3 maps.length a3) (.bool br)
   have uk_45 := blk5 u_45
   have v_46 := blk_off11 v_38 (g := w.heap.size + 1 + 1) (by omega) (.string (bs E.data)) (.slice P1 E.cache.length e1) (.int .i64 E.fuse) (.bool E.off) (.slice Q1 E.bad.length f1) (.int .i64 g) (.int .i64 h) (.int .u64 js) (.int .i64 jp) (.slice A3 maps.length a3) (.bool br)
   have vk_46 := blk2 v_46
   have yy := blk11 r_43
   have bw := hB_39
   have dw := d1_44
   have mw := hm_40
   go_wp2_with fail
   refine bodyPost_ret (v := .tuple #[imval ⟨E, g, h, ⟨js, jp⟩, maps, br⟩ ⟨P1, e1⟩ ⟨Q1, f1⟩ ⟨A3, a3⟩, .int .i64 0]) (by simp [results, Tryz.results40, go_sem, yy]) rfl ?_
   rw [Hr.out]
   exact ⟨⟨⟨P1, e1⟩, ⟨Q1, f1⟩, ⟨A3, a3⟩, rfl, ⟨dw, mw⟩, fun g h1 h2 => ⟨O1 g h1 h2.1, h2.2⟩⟩, bw⟩
 · have n1 : (er != 0) = true := bne_iff_ne.2 he
   have Hr := hid (show Im.done ⟨D, g, h, ⟨seq, pos⟩, maps, br⟩ L = (⟨E, g, h, ⟨seq, pos⟩, maps, true⟩, er) by rw [HD.out]; exact if_pos he)
   clear HD hc hap he
   have hB_31 := (hB_23).setCell (p := ⟨w.heap.size, 10, none⟩) (by show _ ≤ (w.heap.size : Nat); omega) (.bool true)
   have hm_32 := (hm_24).off (a := ⟨w.heap.size, 10, none⟩) (by first | assumption | omega) (.bool true)
   have x_33 := (x_25).set 10 (.bool true)
   simp only [List.setIfInBounds_toArray, List.set_cons_zero, List.set_cons_succ] at x_33
   have xk_33 := blk11 x_33
   have xkf_33 := x_33.frozen
   have z_34 := (z_26).other (a := ⟨w.heap.size, 10, none⟩) (by show _ ≠ (w.heap.size : Nat); omega) (.bool true)
   have zk_34 := blk2 z_34
   have r_35 := (r_27).other (a := ⟨w.heap.size, 10, none⟩) (by show _ ≠ (w.heap.size : Nat); omega) (.bool true)
   have rk_35 := blk11 r_35
   have rkf_35 := r_35.frozen
   have d1_36 := (d1_28).off (a := ⟨w.heap.size, 10, none⟩) (by first | assumption | omega) (.bool true)
   have u_37 := (u_29).other (a := ⟨w.heap.size, 10, none⟩) (by show _ ≠ (w.heap.size : Nat); omega) (.bool true)
   have uk_37 := blk5 u_37
   have v_38 := (v_30).other (a := ⟨w.heap.size, 10, none⟩) (by show _ ≠ (w.heap.size : Nat); omega) (.bool true)
   have vk_38 := blk2 v_38
   have hB_39 := below11 hB_31 (g := w.heap.size + 1 + 1) (by omega) (.string (bs E.data)) (.slice P1 E.cache.length e1) (.int .i64 E.fuse) (.bool E.off) (.slice Q1 E.bad.length f1) (.int .i64 g) (.int .i64 h) (.int .u64 seq) (.int .i64 pos) (.slice A3 maps.length a3) (.bool true)
   have hm_40 := hm_32.off11 (g := w.heap.size + 1 + 1) (by first | assumption | omega) (.string (bs E.data)) (.slice P1 E.cache.length e1) (.int .i64 E.fuse) (.bool E.off) (.slice Q1 E.bad.length f1) (.int .i64 g) (.int .i64 h) (.int .u64 seq) (.int .i64 pos) (.slice A3 maps.length a3) (.bool true)
   have x_41 := blk_off11 x_33 (g := w.heap.size + 1 + 1) (by omega) (.string (bs E.data)) (.slice P1 E.cache.length e1) (.int .i64 E.fuse) (.bool E.off) (.slice Q1 E.bad.length f1) (.int .i64 g) (.int .i64 h) (.int .u64 seq) (.int .i64 pos) (.slice A3 maps.length a3) (.bool true)
   have xk_41 := blk11 x_41
   have xkf_41 := x_41.frozen
   have z_42 := blk_off11 z_34 (g := w.heap.size + 1 + 1) (by omega) (.string (bs E.data)) (.slice P1 E.cache.length e1) (.int .i64 E.fuse) (.bool E.off) (.slice Q1 E.bad.length f1) (.int .i64 g) (.int .i64 h) (.int .u64 seq) (.int .i64 pos) (.slice A3 maps.length a3) (.bool true)
   have zk_42 := blk2 z_42
   have r_43 := blk_set11 r_35 (.string (bs E.data)) (.slice P1 E.cache.length e1) (.int .i64 E.fuse) (.bool E.off) (.slice Q1 E.bad.length f1) (.int .i64 g) (.int .i64 h) (.int .u64 seq) (.int .i64 pos) (.slice A3 maps.length a3) (.bool true)
   have rk_43 := blk11 r_43
   have rkf_43 := r_43.frozen
   have d1_44 := d1_36.off11 (g := w.heap.size + 1 + 1) (by first | assumption | omega) (.string (bs E.data)) (.slice P1 E.cache.length e1) (.int .i64 E.fuse) (.bool E.off) (.slice Q1 E.bad.length f1) (.int .i64 g) (.int .i64 h) (.int .u64 seq) (.int .i64 pos) (.slice A3 maps.length a3) (.bool true)
   have u_45 := blk_off11 u_37 (g := w.heap.size + 1 + 1) (by omega) (.string (bs E.data)) (.slice P1 E.cache.length e1) (.int .i64 E.fuse) (.bool E.off) (.slice Q1 E.bad.length f1) (.int .i64 g) (.int .i64 h) (.int .u64 seq) (.int .i64 pos) (.slice A3 maps.length a3) (.bool true)
   have uk_45 := blk5 u_45
   have v_46 := blk_off11 v_38 (g := w.heap.size + 1 + 1) (by omega) (.string (bs E.data)) (.slice P1 E.cache.length e1) (.int .i64 E.fuse) (.bool E.off) (.slice Q1 E.bad.length f1) (.int .i64 g) (.int .i64 h) (.int .u64 seq) (.int .i64 pos) (.slice A3 maps.length a3) (.bool true)
   have vk_46 := blk2 v_46
   have yy := blk11 r_43
   have bw := hB_39
   have dw := d1_44
   have mw := hm_40
   go_wp2_with fail
   refine bodyPost_ret (v := .tuple #[imval ⟨E, g, h, ⟨seq, pos⟩, maps, true⟩ ⟨P1, e1⟩ ⟨Q1, f1⟩ ⟨A3, a3⟩, .int .i64 er]) (by simp [results, Tryz.results40, go_sem, yy]) rfl ?_
   rw [Hr.out]
   exact ⟨⟨⟨P1, e1⟩, ⟨Q1, f1⟩, ⟨A3, a3⟩, rfl, ⟨dw, mw⟩, fun g h1 h2 => ⟨O1 g h1 h2.1, h2.2⟩⟩, bw⟩
end Go.Proofs.YtlapjkbefkmohaaGreat
