/- Package cofferdamlaw15: chapter 15's example. -/
import Derived.Test.YtlapjkbefkmohaaGreatSdLaw15a
import Derived.Test.YtlapjkbefkmohaaGreatSdImg7
import Derived.Test.YtlapjkbefkmohaaGreatSdImg10
import Derived.Test.YtlapjkbefkmohaaGreatSdSpan5
set_option linter.unusedVariables false
namespace Go.Proofs.YtlapjkbefkmohaaGreat
open Go.RowKit Go.Shelf
attribute [local go_sem] bs_mk bs_append bs_extract bs_size bs_toList bs_get
theorem IsIm.off11 {W : World} {x : Im} {p q r : Pl} (h : IsIm W x p q r) {g : Nat} (ho : ImOff g x p q r) (v0 v1 v2 v3 v4 v5 v6 v7 v8 v9 v10 : Value) : IsIm (((((((((((W.setCell ⟨g, 0, none⟩ v0).setCell ⟨g, 1, none⟩ v1).setCell ⟨g, 2, none⟩ v2).setCell ⟨g, 3, none⟩ v3).setCell ⟨g, 4, none⟩ v4).setCell ⟨g, 5, none⟩ v5).setCell ⟨g, 6, none⟩ v6).setCell ⟨g, 7, none⟩ v7).setCell ⟨g, 8, none⟩ v8).setCell ⟨g, 9, none⟩ v9).setCell ⟨g, 10, none⟩ v10) x p q r :=
 ⟨h.d.off11 ho.1 v0 v1 v2 v3 v4 v5 v6 v7 v8 v9 v10, h.m.off11 ho.2 v0 v1 v2 v3 v4 v5 v6 v7 v8 v9 v10⟩
theorem sm1_ok : sm1.Ok := (Im.write_kept smI_ok 1 0 [120]).1.ok
theorem lit_cells {w : World} {t : TypeId} (l : List (Int × Int)) {cs : Array Value} (h : cs.toList = entCells l) : Cells (w.alloc (.cells cs t)) (some ⟨w.heap.size, 0, none⟩) (entCells l) :=
 .inr ⟨_, _, rfl, fun j u hu => by
  rw [← h] at hu
  have hb : (w.alloc (.cells cs t)).heap[w.heap.size]? = some (.cells cs t (0, 0)) := Blk.new w t cs
  rw [Nat.zero_add]
  simp only [World.cell?, hb]
  simpa using hu⟩
set_option maxRecDepth 100000 in
set_option maxHeartbeats 2000000 in
theorem awake15 (w : World) : Calls Tryz.prog 7 #[] w fun e w' => e = .returned (.bool true) ∧ Below w.heap.size w w' := by
 obtain ⟨e1, e2, e3, e4⟩ := ev15
 have him := fun (W : World) => r13_small W
 have hwr := fun (W : World) (p q r : Pl) (hI : IsIm W smI p q r) => r13_write smI p q r W hI smI_ok 1 0 [120] (by constructor <;> omega) (by constructor <;> omega) (by decide)
 rw [show smI.write 1 0 [120] = (sm1, 0) from Prod.ext rfl e1] at hwr
 have hget := fun (W : World) (p q : Pl) (hD : IsDk W sm1.d p q) => r10_get sm1.d Pn.none p q ⟨none, 0⟩ ⟨none, 0⟩ W hD (isPn_zero _) sm1_ok.d Pn.none_fit
 have hst := fun (W : World) (p q r : Pl) (hI : IsIm W sm1 p q r) => sp_status sm1 p q r W hI sm1_ok.d sm1_ok.g (Pn.rtGet sm1.d Pn.none).1.1 0 384 (by constructor <;> omega) (by constructor <;> omega)
 rw [e3] at hst
 have hj := fun (W : World) (A : Option Addr) (c : Nat) (hA : Cells W A (entCells [(1, 0), (2, 0)])) => sp_join [(1, 0), (2, 0)] A c (by decide) (by intro x hx; simp at hx; rcases hx with rfl | rfl <;> decide) W hA
 rw [e4] at hj
 have hr1 := fun (W : World) (A B : Option Addr) (c d : Nat) (hA : Cells W A (entCells [(128, 3), (128, 0), (128, 3)])) (hB : Cells W B (entCells [(128, 3), (128, 0), (128, 3)])) => r15_row [(128, 3), (128, 0), (128, 3)] A B c d W hA hB (by decide)
 have hr2 := fun (W : World) (A B : Option Addr) (c d : Nat) (hA : Cells W A (entCells [(3, 0)])) (hB : Cells W B (entCells [(3, 0)])) => r15_row [(3, 0)] A B c d W hA hB (by decide)
 generalize Pn.rtGet sm1.d Pn.none = G at *
 obtain ⟨⟨L1, n1⟩, ge⟩ := G
 simp only at e2 hget hst
 subst e2
 clear e1 e3 e4
 generalize smI = I0 at *
 generalize sm1 = I1 at *
 obtain ⟨D0, g0, h0, ⟨s0, o0⟩, m0, b0⟩ := I0
 obtain ⟨D1, g1, h1, ⟨s1, o1⟩, m1, b1⟩ := I1
 simp only at hget
 have hB := Below.refl w.heap.size w
 go_enter Tryz.func7, Tryz.ntmps7
 go_wp2_with fail
 go_at_call 19
 refine ((him _)).mono ?_
 rintro e w1 ⟨⟨⟨A1, a1⟩, ⟨A2, a2⟩, ⟨A3, a3⟩, rfl, i1⟩, hb1⟩
 replace hB := bt hB hb1
 have x := Blk.new w1 33 #[.string (bs D0.data), .slice A1 D0.cache.length a1, .int .i64 D0.fuse, .bool D0.off, .slice A2 D0.bad.length a2, .int .i64 g0, .int .i64 h0, .int .u64 s0, .int .i64 o0, .slice A3 m0.length a3, .bool b0]
 have xk := blk11 x
 have xkf := x.frozen
 have hB_1 := hB.alloc hB.size (.cells #[.string (bs D0.data), .slice A1 D0.cache.length a1, .int .i64 D0.fuse, .bool D0.off, .slice A2 D0.bad.length a2, .int .i64 g0, .int .i64 h0, .int .u64 s0, .int .i64 o0, .slice A3 m0.length a3, .bool b0] 33)
 have i1_2 := i1.below ((Below.refl _ _).alloc (Nat.le_refl _) (.cells #[.string (bs D0.data), .slice A1 D0.cache.length a1, .int .i64 D0.fuse, .bool D0.off, .slice A2 D0.bad.length a2, .int .i64 g0, .int .i64 h0, .int .u64 s0, .int .i64 o0, .slice A3 m0.length a3, .bool b0] 33))
 have lx1 := (x).lt
 have ox1 := i1.apart (Nat.le_refl w1.heap.size)
 go_wp2_with fail
 go_at_call 16
 refine ((hwr _ _ _ _ i1_2)).mono ?_
 rintro e w2 ⟨⟨⟨B1, c1⟩, ⟨B2, c2⟩, ⟨B3, c3⟩, rfl, i2, oo2⟩, hb2⟩
 replace hB := bt hB_1 hb2
 replace i1 := i1_2.below hb2
 replace x := x.below hb2 x.lt
 replace xk := blk11 x
 replace xkf := x.frozen
 clear hB_1 i1_2
 have ox2 := oo2 w1.heap.size lx1 ox1
 clear oo2
 have hs1 : w.heap.size ≤ w1.heap.size := hb1.size
 have hB_3 := below11 hB (g := w1.heap.size) (by omega) (.string (bs D1.data)) (.slice B1 D1.cache.length c1) (.int .i64 D1.fuse) (.bool D1.off) (.slice B2 D1.bad.length c2) (.int .i64 g1) (.int .i64 h1) (.int .u64 s1) (.int .i64 o1) (.slice B3 m1.length c3) (.bool b1)
 have x_4 := blk_set11 x (.string (bs D1.data)) (.slice B1 D1.cache.length c1) (.int .i64 D1.fuse) (.bool D1.off) (.slice B2 D1.bad.length c2) (.int .i64 g1) (.int .i64 h1) (.int .u64 s1) (.int .i64 o1) (.slice B3 m1.length c3) (.bool b1)
 have xk_4 := blk11 x_4
 have xkf_4 := x_4.frozen
 have i2_5 := i2.off11 (g := w1.heap.size) (by first | assumption | omega) (.string (bs D1.data)) (.slice B1 D1.cache.length c1) (.int .i64 D1.fuse) (.bool D1.off) (.slice B2 D1.bad.length c2) (.int .i64 g1) (.int .i64 h1) (.int .u64 s1) (.int .i64 o1) (.slice B3 m1.length c3) (.bool b1)
 go_wp2_with fail
 go_at_call 20
 refine ((hget _ _ _ (i2_5).d)).mono ?_
 rintro e w3 ⟨rfl, hb3⟩
 replace hB := bt hB_3 hb3
 replace x := x_4.below hb3 x_4.lt
 replace xk := blk11 x
 replace xkf := x.frozen
 replace i2 := i2_5.below hb3
 clear hB_3 xk_4 xkf_4 x_4 i2_5
 have y := Blk.new w3 62 #[.int .i64 L1, .int .u32 n1]
 have yk := blk2 y
 have hB_6 := hB.alloc hB.size (.cells #[.int .i64 L1, .int .u32 n1] 62)
 have x_7 := x.alloc (.cells #[.int .i64 L1, .int .u32 n1] 62)
 have xk_7 := blk11 x_7
 have xkf_7 := x_7.frozen
 have i2_8 := i2.below ((Below.refl _ _).alloc (Nat.le_refl _) (.cells #[.int .i64 L1, .int .u32 n1] 62))
 go_wp2_with fail
 go_at_call 8
 refine ((hst _ _ _ _ i2_8)).mono ?_
 rintro e w4 ⟨⟨v, rfl, hv⟩, hb4⟩
 replace hB := bt hB_6 hb4
 replace x := x_7.below hb4 x_7.lt
 replace xk := blk11 x
 replace xkf := x.frozen
 replace i2 := i2_8.below hb4
 replace y := y.below hb4 y.lt
 replace yk := blk2 y
 clear hB_6 xk_7 xkf_7 x_7 i2_8
 obtain ⟨A4, a4, rfl, _, _, _⟩ := own_slice hv
 have cv := Cells.of_own hv
 clear hv
 have l3 := hid (fun (W : World) => lit_cells (w := W) (t := 41) [(128, 3), (128, 0), (128, 3)] (cs := #[.int .i64 128, .int .i64 3, .int .i64 128, .int .i64 0, .int .i64 128, .int .i64 3]) rfl)
 have l2 := hid (fun (W : World) => lit_cells (w := W) (t := 41) [(1, 0), (2, 0)] (cs := #[.int .i64 1, .int .i64 0, .int .i64 2, .int .i64 0]) rfl)
 have l1 := hid (fun (W : World) => lit_cells (w := W) (t := 41) [(3, 0)] (cs := #[.int .i64 3, .int .i64 0]) rfl)
 have hB_9 := hB.alloc hB.size (.cells #[.int .i64 128, .int .i64 3, .int .i64 128, .int .i64 0, .int .i64 128, .int .i64 3] 41)
 have x_10 := x.alloc (.cells #[.int .i64 128, .int .i64 3, .int .i64 128, .int .i64 0, .int .i64 128, .int .i64 3] 41)
 have xk_10 := blk11 x_10
 have xkf_10 := x_10.frozen
 have i2_11 := i2.below ((Below.refl _ _).alloc (Nat.le_refl _) (.cells #[.int .i64 128, .int .i64 3, .int .i64 128, .int .i64 0, .int .i64 128, .int .i64 3] 41))
 have y_12 := y.alloc (.cells #[.int .i64 128, .int .i64 3, .int .i64 128, .int .i64 0, .int .i64 128, .int .i64 3] 41)
 have yk_12 := blk2 y_12
 have cv_13 := cv.below ((Below.refl _ _).alloc (Nat.le_refl _) (.cells #[.int .i64 128, .int .i64 3, .int .i64 128, .int .i64 0, .int .i64 128, .int .i64 3] 41))
 go_wp2_with fail
 go_at_call 13
 refine ((hr1 _ _ _ _ _ cv_13 (l3.out _))).mono ?_
 rintro e w5 ⟨rfl, hb5⟩
 replace hB := bt hB_9 hb5
 replace x := x_10.below hb5 x_10.lt
 replace xk := blk11 x
 replace xkf := x.frozen
 replace i2 := i2_11.below hb5
 replace y := y_12.below hb5 y_12.lt
 replace yk := blk2 y
 replace cv := cv_13.below hb5
 clear hB_9 xk_10 xkf_10 x_10 i2_11 yk_12 y_12 cv_13
 have hB_14 := hB.alloc hB.size (.cells #[.int .i64 1, .int .i64 0, .int .i64 2, .int .i64 0] 41)
 have x_15 := x.alloc (.cells #[.int .i64 1, .int .i64 0, .int .i64 2, .int .i64 0] 41)
 have xk_15 := blk11 x_15
 have xkf_15 := x_15.frozen
 have i2_16 := i2.below ((Below.refl _ _).alloc (Nat.le_refl _) (.cells #[.int .i64 1, .int .i64 0, .int .i64 2, .int .i64 0] 41))
 have y_17 := y.alloc (.cells #[.int .i64 1, .int .i64 0, .int .i64 2, .int .i64 0] 41)
 have yk_17 := blk2 y_17
 go_wp2_with fail
 go_at_call 14
 refine ((hj _ _ _ (l2.out _))).mono ?_
 rintro e w6 ⟨⟨v, rfl, hv⟩, hb6⟩
 replace hB := bt hB_14 hb6
 replace x := x_15.below hb6 x_15.lt
 replace xk := blk11 x
 replace xkf := x.frozen
 replace i2 := i2_16.below hb6
 replace y := y_17.below hb6 y_17.lt
 replace yk := blk2 y
 clear hB_14 xk_15 xkf_15 x_15 i2_16 yk_17 y_17
 obtain ⟨A6, a6, rfl, _, _, _⟩ := own_slice hv
 have cu := Cells.of_own hv
 clear hv
 have hB_18 := hB.alloc hB.size (.cells #[.int .i64 3, .int .i64 0] 41)
 have x_19 := x.alloc (.cells #[.int .i64 3, .int .i64 0] 41)
 have xk_19 := blk11 x_19
 have xkf_19 := x_19.frozen
 have i2_20 := i2.below ((Below.refl _ _).alloc (Nat.le_refl _) (.cells #[.int .i64 3, .int .i64 0] 41))
 have y_21 := y.alloc (.cells #[.int .i64 3, .int .i64 0] 41)
 have yk_21 := blk2 y_21
 have cu_22 := cu.below ((Below.refl _ _).alloc (Nat.le_refl _) (.cells #[.int .i64 3, .int .i64 0] 41))
 go_wp2_with fail
 go_at_call 13
 refine ((hr2 _ _ _ _ _ cu_22 (l1.out _))).mono ?_
 rintro e w7 ⟨rfl, hb7⟩
 replace hB := bt hB_18 hb7
 replace x := x_19.below hb7 x_19.lt
 replace xk := blk11 x
 replace xkf := x.frozen
 replace i2 := i2_20.below hb7
 replace y := y_21.below hb7 y_21.lt
 replace yk := blk2 y
 replace cu := cu_22.below hb7
 clear hB_18 xk_19 xkf_19 x_19 i2_20 yk_21 y_21 cu_22
 go_wp2_with fail
 go_ret
 exact ⟨rfl, hB⟩
end Go.Proofs.YtlapjkbefkmohaaGreat
