/- Package root, ref10: plans with another snapshot. -/
import Derived.Test.YtjhnaeomaigimaaGreatDoorRoot4
set_option linter.unusedVariables false
namespace Go.Proofs.YtjhnaeomaigimaaGreatDoor
open Go.RowKit Go.Shelf
attribute [local go_sem] bs_mk bs_append bs_extract bs_size bs_toList bs_get
abbrev snPlace (i : Nat) : Value := .agg #[.int .i64 (Pn.snSec i), .int .i64 (Pn.snOff i), .int .i64 16, .func (.func 49) #[] #[], .func (.func 103) #[] #[]]
theorem rt_snapAt (i : Nat) (hi : i < 8) (w : World) : Calls Tryz.prog 50 #[.int .i64 i] w fun e w' => e = .returned (snPlace i) ∧ Below w.heap.size w w' := by
  have e1 : (2 : Int) + (i : Int) / 4 = Pn.snSec i := rfl
  have e2 : (i : Int) % 4 * 16 = Pn.snOff i := by unfold Pn.snOff; omega
  unfold snPlace
  generalize Pn.snSec i = a at *
  generalize Pn.snOff i = o at *
  have hB := Below.refl w.heap.size w
  have r := Blk.new w 96 #[.int .i64 a, .int .i64 o, .int .i64 16, .func (.func 49) #[] #[], .func (.func 103) #[] #[]]
  have rk := blk5 r
  have hB_1 := hB.alloc hB.size (.cells #[.int .i64 a, .int .i64 o, .int .i64 16, .func (.func 49) #[] #[], .func (.func 103) #[] #[]] 96)
  go_enter Tryz.func50, Tryz.ntmps50
  go_wp2_with fail
  refine bodyPost_ret (v := .agg #[.int .i64 a, .int .i64 o, .int .i64 16, .func (.func 49) #[] #[], .func (.func 103) #[] #[]]) (by simp [results, Tryz.results50, go_sem, rk]) rfl ?_
  exact ⟨rfl, hB_1⟩
set_option maxRecDepth 100000 in
set_option maxHeartbeats 1000000 in
theorem rt_setSnap (D : Dk) (L : Pn) (p q p' q' : Pl) (w : World) (hD : IsDk w D p q) (hL : IsPn w L p' q') (hf : D.fit = true) (hfl : L.Fit) (i : Int) (s : Sn) (hi : s.id < 4294967296) (hl : okInt s.l1) (hm : s.name.length ≤ maxLen) (hi64 : okInt i) :
    Calls Tryz.prog 13 #[dval D p q, pval L p' q', .int .i64 i, snval s] w fun e w' => RetPn w.heap.size L p' q' (Pn.snSet D L i s) e w' ∧ Below w.heap.size w w' := by
  have hws := fun W => rt_writeSnap s hi hl hm W
  have Hz := hid (fun (W : World) (hb : Below w.heap.size w W) => hL.below hb)
  have hpt := fun (W : World) (hb : Below w.heap.size w W) (k : Int) (o : Int) (t : List UInt8) (h1 : -9223372036854775808 ≤ k ∧ k ≤ 9223372036854775807) (h2 : t.length ≤ 9223372036854775807) => pl_patch D L p q p' q' W (hD.below hb) (hL.below hb) hf hfl k o h1 t h2
  have hap := fun g (hg : w.heap.size ≤ g) => hL.apart hg
  clear hL hD hf hfl
  obtain ⟨A1, a1⟩ := p
  obtain ⟨A2, a2⟩ := q
  obtain ⟨B1, b1⟩ := p'
  obtain ⟨B2, b2⟩ := q'
  obtain ⟨id, l1, name⟩ := s
  simp only at hi hl hm
  have hB := Below.refl w.heap.size w
  have x := Blk.new w 25 #[.string (bs D.data), .slice A1 D.cache.length a1, .int .i64 D.fuse, .bool D.off, .slice A2 D.bad.length a2]
  have xk := blk5 x
  have hB_1 := hB.alloc hB.size (.cells #[.string (bs D.data), .slice A1 D.cache.length a1, .int .i64 D.fuse, .bool D.off, .slice A2 D.bad.length a2] 25)
  have z := Blk.new (w.alloc (.cells #[.string (bs D.data), .slice A1 D.cache.length a1, .int .i64 D.fuse, .bool D.off, .slice A2 D.bad.length a2] 25)) 28 #[.slice B1 L.targets.length b1, .slice B2 L.data.length b2]
  simp only [World.size_alloc] at z
  have zk := blk2 z
  have hB_2 := hB_1.alloc hB_1.size (.cells #[.slice B1 L.targets.length b1, .slice B2 L.data.length b2] 28)
  have x_3 := x.alloc (.cells #[.slice B1 L.targets.length b1, .slice B2 L.data.length b2] 28)
  have xk_3 := blk5 x_3
  have y := Blk.new ((w.alloc (.cells #[.string (bs D.data), .slice A1 D.cache.length a1, .int .i64 D.fuse, .bool D.off, .slice A2 D.bad.length a2] 25)).alloc (.cells #[.slice B1 L.targets.length b1, .slice B2 L.data.length b2] 28)) 33 #[.int .u32 id, .int .i64 l1, .string (bs name)]
  simp only [World.size_alloc] at y
  have yk := blk3 y
  have hB_4 := hB_2.alloc hB_2.size (.cells #[.int .u32 id, .int .i64 l1, .string (bs name)] 33)
  have x_5 := x_3.alloc (.cells #[.int .u32 id, .int .i64 l1, .string (bs name)] 33)
  have xk_5 := blk5 x_5
  have z_6 := z.alloc (.cells #[.int .u32 id, .int .i64 l1, .string (bs name)] 33)
  have zk_6 := blk2 z_6
  by_cases h : i < 0 ∨ 8 ≤ i
  · have Hr := hid (show Pn.snSet D L i ⟨id, l1, name⟩ = (L, 10) by rw [Pn.snSet, if_pos h])
    by_cases h0 : i < 0
    · have d0 : decide (i < 0) = true := decide_eq_true h0
      clear h hws hpt h0
      go_enter Tryz.func13, Tryz.ntmps13
      have r := Blk.new (((w.alloc (.cells #[.string (bs D.data), .slice A1 D.cache.length a1, .int .i64 D.fuse, .bool D.off, .slice A2 D.bad.length a2] 25)).alloc (.cells #[.slice B1 L.targets.length b1, .slice B2 L.data.length b2] 28)).alloc (.cells #[.int .u32 id, .int .i64 l1, .string (bs name)] 33)) 28 #[.slice B1 L.targets.length b1, .slice B2 L.data.length b2]
      simp only [World.size_alloc] at r
      have rk := blk2 r
      have rkf := r.frozen
      have hB_7 := hB_4.alloc hB_4.size (.cells #[.slice B1 L.targets.length b1, .slice B2 L.data.length b2] 28)
      have x_8 := x_5.alloc (.cells #[.slice B1 L.targets.length b1, .slice B2 L.data.length b2] 28)
      have xk_8 := blk5 x_8
      have z_9 := z_6.alloc (.cells #[.slice B1 L.targets.length b1, .slice B2 L.data.length b2] 28)
      have zk_9 := blk2 z_9
      have y_10 := y.alloc (.cells #[.slice B1 L.targets.length b1, .slice B2 L.data.length b2] 28)
      have yk_10 := blk3 y_10
      have i2 := Hz.out _ hB_7
      have b8 := hB_7
      have yy := rk
      go_wp2_with fail
      refine bodyPost_ret (v := .tuple #[pval L ⟨B1, b1⟩ ⟨B2, b2⟩, .int .i64 10]) (by simp [results, Tryz.results13, go_sem, yy]) rfl ?_
      rw [Hr.out]
      exact ⟨⟨⟨B1, b1⟩, ⟨B2, b2⟩, rfl, i2, fun g _ h => h⟩, b8⟩
    · have d0 : decide (i < 0) = false := decide_eq_false h0
      have d1 : decide ((8 : Int) ≤ i) = true := decide_eq_true (by omega)
      clear h hws hpt h0
      go_enter Tryz.func13, Tryz.ntmps13
      have r := Blk.new (((w.alloc (.cells #[.string (bs D.data), .slice A1 D.cache.length a1, .int .i64 D.fuse, .bool D.off, .slice A2 D.bad.length a2] 25)).alloc (.cells #[.slice B1 L.targets.length b1, .slice B2 L.data.length b2] 28)).alloc (.cells #[.int .u32 id, .int .i64 l1, .string (bs name)] 33)) 28 #[.slice B1 L.targets.length b1, .slice B2 L.data.length b2]
      simp only [World.size_alloc] at r
      have rk := blk2 r
      have rkf := r.frozen
      have hB_7 := hB_4.alloc hB_4.size (.cells #[.slice B1 L.targets.length b1, .slice B2 L.data.length b2] 28)
      have x_8 := x_5.alloc (.cells #[.slice B1 L.targets.length b1, .slice B2 L.data.length b2] 28)
      have xk_8 := blk5 x_8
      have z_9 := z_6.alloc (.cells #[.slice B1 L.targets.length b1, .slice B2 L.data.length b2] 28)
      have zk_9 := blk2 z_9
      have y_10 := y.alloc (.cells #[.slice B1 L.targets.length b1, .slice B2 L.data.length b2] 28)
      have yk_10 := blk3 y_10
      have i2 := Hz.out _ hB_7
      have b8 := hB_7
      have yy := rk
      go_wp2_with fail
      refine bodyPost_ret (v := .tuple #[pval L ⟨B1, b1⟩ ⟨B2, b2⟩, .int .i64 10]) (by simp [results, Tryz.results13, go_sem, yy]) rfl ?_
      rw [Hr.out]
      exact ⟨⟨⟨B1, b1⟩, ⟨B2, b2⟩, rfl, i2, fun g _ h => h⟩, b8⟩
  · have d0 : decide (i < 0) = false := decide_eq_false (by omega)
    have d1 : decide ((8 : Int) ≤ i) = false := decide_eq_false (by omega)
    cases hk : Sn.ok ⟨id, l1, name⟩ with
    | false =>
      have Hr := hid (show Pn.snSet D L i ⟨id, l1, name⟩ = (L, 25) by rw [Pn.snSet, if_neg h, if_pos hk])
      rw [hk] at hws
      clear h hpt hk
      have r := Blk.new (((w.alloc (.cells #[.string (bs D.data), .slice A1 D.cache.length a1, .int .i64 D.fuse, .bool D.off, .slice A2 D.bad.length a2] 25)).alloc (.cells #[.slice B1 L.targets.length b1, .slice B2 L.data.length b2] 28)).alloc (.cells #[.int .u32 id, .int .i64 l1, .string (bs name)] 33)) 28 #[.slice none 0 0, .slice none 0 0]
      simp only [World.size_alloc] at r
      have rk := blk2 r
      have rkf := r.frozen
      have hB_7 := hB_4.alloc hB_4.size (.cells #[.slice none 0 0, .slice none 0 0] 28)
      have x_8 := x_5.alloc (.cells #[.slice none 0 0, .slice none 0 0] 28)
      have xk_8 := blk5 x_8
      have z_9 := z_6.alloc (.cells #[.slice none 0 0, .slice none 0 0] 28)
      have zk_9 := blk2 z_9
      have y_10 := y.alloc (.cells #[.slice none 0 0, .slice none 0 0] 28)
      have yk_10 := blk3 y_10
      go_enter Tryz.func13, Tryz.ntmps13
      go_wp2_with fail
      go_at_call 49
      refine ((hws _)).mono ?_
      rintro e w1 ⟨⟨b, rfl, _⟩, hb1⟩
      replace hB := bt hB_7 hb1
      replace x := x_8.below hb1 x_8.lt
      replace xk := blk5 x
      replace z := z_9.below hb1 z_9.lt
      replace zk := blk2 z
      replace y := y_10.below hb1 y_10.lt
      replace yk := blk3 y
      replace r := r.below hb1 r.lt
      replace rk := blk2 r
      replace rkf := r.frozen
      clear hB_1 hB_2 xk_3 x_3 hB_4 xk_5 x_5 zk_6 z_6 hB_7 xk_8 x_8 zk_9 z_9 yk_10 y_10
      have hrl := r.lt
      have i0 := Hz.out _ hB
      have yy := blk2 (blk_set2 r (.slice B1 L.targets.length b1) (.slice B2 L.data.length b2))
      have i2 := i0.off2 (g := w.heap.size + 1 + 1 + 1) (hap _ (by omega)) (.slice B1 L.targets.length b1) (.slice B2 L.data.length b2)
      have b8 := below_set2 hB (g := w.heap.size + 1 + 1 + 1) (by omega) (.slice B1 L.targets.length b1) (.slice B2 L.data.length b2)
      go_wp2_with fail
      refine bodyPost_ret (v := .tuple #[pval L ⟨B1, b1⟩ ⟨B2, b2⟩, .int .i64 25]) (by simp [results, Tryz.results13, go_sem, yy]) rfl ?_
      rw [Hr.out]
      exact ⟨⟨⟨B1, b1⟩, ⟨B2, b2⟩, rfl, i2, fun g _ h => h⟩, b8⟩
    | true =>
      have hbl := Sn.bytes_length hk
      have Hr := hid (show Pn.snSet D L i ⟨id, l1, name⟩ = Pn.patch D L (Pn.snSec i) (Pn.snOff i) (Sn.bytes ⟨id, l1, name⟩) by rw [Pn.snSet, if_neg h, if_neg (by rw [hk]; simp)])
      rw [hk] at hws
      obtain ⟨k, rfl⟩ := Int.eq_ofNat_of_zero_le (show 0 ≤ i by omega)
      have hk8 : k < 8 := by omega
      have hp2 := fun (W : World) (hb : Below w.heap.size w W) => hpt W hb (Pn.snSec k) (Pn.snOff k) (Sn.bytes ⟨id, l1, name⟩) (by unfold Pn.snSec; omega) (by rw [hbl]; decide)
      have hat := fun W => rt_snapAt k hk8 W; unfold snPlace at hat
      skip
      generalize Sn.bytes ⟨id, l1, name⟩ = T at *
      generalize Pn.snSec k = a at *
      generalize Pn.snOff k = o at *
      generalize Pn.patch D L a o T = X at *
      clear h hpt hk
      have r := Blk.new (((w.alloc (.cells #[.string (bs D.data), .slice A1 D.cache.length a1, .int .i64 D.fuse, .bool D.off, .slice A2 D.bad.length a2] 25)).alloc (.cells #[.slice B1 L.targets.length b1, .slice B2 L.data.length b2] 28)).alloc (.cells #[.int .u32 id, .int .i64 l1, .string (bs name)] 33)) 28 #[.slice none 0 0, .slice none 0 0]
      simp only [World.size_alloc] at r
      have rk := blk2 r
      have rkf := r.frozen
      have hB_7 := hB_4.alloc hB_4.size (.cells #[.slice none 0 0, .slice none 0 0] 28)
      have x_8 := x_5.alloc (.cells #[.slice none 0 0, .slice none 0 0] 28)
      have xk_8 := blk5 x_8
      have z_9 := z_6.alloc (.cells #[.slice none 0 0, .slice none 0 0] 28)
      have zk_9 := blk2 z_9
      have y_10 := y.alloc (.cells #[.slice none 0 0, .slice none 0 0] 28)
      have yk_10 := blk3 y_10
      go_enter Tryz.func13, Tryz.ntmps13
      go_wp2_with fail
      go_at_call 49
      refine ((hws _)).mono ?_
      rintro e w1 ⟨⟨b, rfl, hbt⟩, hb1⟩
      replace hB := bt hB_7 hb1
      replace x := x_8.below hb1 x_8.lt
      replace xk := blk5 x
      replace z := z_9.below hb1 z_9.lt
      replace zk := blk2 z
      replace y := y_10.below hb1 y_10.lt
      replace yk := blk3 y
      replace r := r.below hb1 r.lt
      replace rk := blk2 r
      replace rkf := r.frozen
      clear hB_1 hB_2 xk_3 x_3 hB_4 xk_5 x_5 zk_6 z_6 hB_7 xk_8 x_8 zk_9 z_9 yk_10 y_10
      have hrl := r.lt
      obtain rfl : b = T := hbt (by first | rfl | trivial)
      clear hbt
      go_wp2_with fail
      go_at_call 50
      refine ((hat _)).mono ?_
      rintro e w2 ⟨rfl, hb2⟩
      replace hB := bt hB hb2
      replace x := x.below hb2 x.lt
      replace xk := blk5 x
      replace z := z.below hb2 z.lt
      replace zk := blk2 z
      replace y := y.below hb2 y.lt
      replace yk := blk3 y
      replace r := r.below hb2 r.lt
      replace rk := blk2 r
      replace rkf := r.frozen
      have pl := Blk.new w2 96 #[.int .i64 a, .int .i64 o, .int .i64 16, .func (.func 49) #[] #[], .func (.func 103) #[] #[]]
      have plk := blk5 pl
      have hB_11 := hB.alloc hB.size (.cells #[.int .i64 a, .int .i64 o, .int .i64 16, .func (.func 49) #[] #[], .func (.func 103) #[] #[]] 96)
      have x_12 := x.alloc (.cells #[.int .i64 a, .int .i64 o, .int .i64 16, .func (.func 49) #[] #[], .func (.func 103) #[] #[]] 96)
      have xk_12 := blk5 x_12
      have z_13 := z.alloc (.cells #[.int .i64 a, .int .i64 o, .int .i64 16, .func (.func 49) #[] #[], .func (.func 103) #[] #[]] 96)
      have zk_13 := blk2 z_13
      have y_14 := y.alloc (.cells #[.int .i64 a, .int .i64 o, .int .i64 16, .func (.func 49) #[] #[], .func (.func 103) #[] #[]] 96)
      have yk_14 := blk3 y_14
      have r_15 := r.alloc (.cells #[.int .i64 a, .int .i64 o, .int .i64 16, .func (.func 49) #[] #[], .func (.func 103) #[] #[]] 96)
      have rk_15 := blk2 r_15
      have rkf_15 := r_15.frozen
      go_wp2_with fail
      go_at_call 51
      refine ((hp2 _ hB_11)).mono ?_
      rintro e w3 ⟨⟨p3, q3, rfl, i3, o3⟩, hb3⟩
      replace hB := bt hB_11 hb3
      replace x := x_12.below hb3 x_12.lt
      replace xk := blk5 x
      replace z := z_13.below hb3 z_13.lt
      replace zk := blk2 z
      replace y := y_14.below hb3 y_14.lt
      replace yk := blk3 y
      replace r := r_15.below hb3 r_15.lt
      replace rk := blk2 r
      replace rkf := r.frozen
      replace pl := pl.below hb3 pl.lt
      replace plk := blk5 pl
      clear hB_11 xk_12 x_12 zk_13 z_13 yk_14 y_14 rk_15 rkf_15 r_15
      have or3 := o3 (w.heap.size + 1 + 1 + 1) (by have := hb2.size; simp only [World.size_alloc]; omega) (hap _ (by omega))
      go_wp2_with fail
      have yy := blk2 (blk_set2 r (.slice p3.a X.1.targets.length p3.c) (.slice q3.a X.1.data.length q3.c))
      have i4 := i3.off2 or3 (.slice p3.a X.1.targets.length p3.c) (.slice q3.a X.1.data.length q3.c)
      have b8 := below_set2 hB (g := w.heap.size + 1 + 1 + 1) (by omega) (.slice p3.a X.1.targets.length p3.c) (.slice q3.a X.1.data.length q3.c)
      refine bodyPost_ret (v := .tuple #[pval X.1 p3 q3, .int .i64 X.2]) (by simp [results, Tryz.results13, go_sem, yy]) rfl ?_
      rw [Hr.out]
      exact ⟨⟨p3, q3, rfl, i4, fun g h1 h2 => o3 g (by have := hb2.size; simp only [World.size_alloc]; omega) h2⟩, b8⟩
set_option maxRecDepth 100000 in
set_option maxHeartbeats 1000000 in
theorem r10_setSnap (D : Dk) (L : Pn) (p q p' q' : Pl) (w : World) (hD : IsDk w D p q) (hL : IsPn w L p' q') (hf : D.fit = true) (hfl : L.Fit) (i : Int) (s : Sn) (hi : s.id < 4294967296) (hl : okInt s.l1) (hm : s.name.length ≤ maxLen) (hi64 : okInt i) :
    Calls Tryz.prog 14 #[dval D p q, pval L p' q', .int .i64 i, snval s] w fun e w' => RetPn w.heap.size L p' q' (Pn.snSet D L i s) e w' ∧ Below w.heap.size w w' := by
  have hws := fun W => r10_snap s hi hl hm W
  have Hz := hid (fun (W : World) (hb : Below w.heap.size w W) => hL.below hb)
  have hpt := fun (W : World) (hb : Below w.heap.size w W) (k : Int) (o : Int) (t : List UInt8) (h1 : -9223372036854775808 ≤ k ∧ k ≤ 9223372036854775807) (h2 : t.length ≤ 9223372036854775807) => r5_patch D L p q p' q' W (hD.below hb) (hL.below hb) hf hfl k o h1 t h2
  have hap := fun g (hg : w.heap.size ≤ g) => hL.apart hg
  clear hL hD hf hfl
  obtain ⟨A1, a1⟩ := p
  obtain ⟨A2, a2⟩ := q
  obtain ⟨B1, b1⟩ := p'
  obtain ⟨B2, b2⟩ := q'
  obtain ⟨id, l1, name⟩ := s
  simp only at hi hl hm
  have hB := Below.refl w.heap.size w
  have x := Blk.new w 25 #[.string (bs D.data), .slice A1 D.cache.length a1, .int .i64 D.fuse, .bool D.off, .slice A2 D.bad.length a2]
  have xk := blk5 x
  have hB_1 := hB.alloc hB.size (.cells #[.string (bs D.data), .slice A1 D.cache.length a1, .int .i64 D.fuse, .bool D.off, .slice A2 D.bad.length a2] 25)
  have z := Blk.new (w.alloc (.cells #[.string (bs D.data), .slice A1 D.cache.length a1, .int .i64 D.fuse, .bool D.off, .slice A2 D.bad.length a2] 25)) 28 #[.slice B1 L.targets.length b1, .slice B2 L.data.length b2]
  simp only [World.size_alloc] at z
  have zk := blk2 z
  have hB_2 := hB_1.alloc hB_1.size (.cells #[.slice B1 L.targets.length b1, .slice B2 L.data.length b2] 28)
  have x_3 := x.alloc (.cells #[.slice B1 L.targets.length b1, .slice B2 L.data.length b2] 28)
  have xk_3 := blk5 x_3
  have y := Blk.new ((w.alloc (.cells #[.string (bs D.data), .slice A1 D.cache.length a1, .int .i64 D.fuse, .bool D.off, .slice A2 D.bad.length a2] 25)).alloc (.cells #[.slice B1 L.targets.length b1, .slice B2 L.data.length b2] 28)) 33 #[.int .u32 id, .int .i64 l1, .string (bs name)]
  simp only [World.size_alloc] at y
  have yk := blk3 y
  have hB_4 := hB_2.alloc hB_2.size (.cells #[.int .u32 id, .int .i64 l1, .string (bs name)] 33)
  have x_5 := x_3.alloc (.cells #[.int .u32 id, .int .i64 l1, .string (bs name)] 33)
  have xk_5 := blk5 x_5
  have z_6 := z.alloc (.cells #[.int .u32 id, .int .i64 l1, .string (bs name)] 33)
  have zk_6 := blk2 z_6
  by_cases h : i < 0 ∨ 8 ≤ i
  · have Hr := hid (show Pn.snSet D L i ⟨id, l1, name⟩ = (L, 10) by rw [Pn.snSet, if_pos h])
    by_cases h0 : i < 0
    · have d0 : decide (i < 0) = true := decide_eq_true h0
      clear h hws hpt h0
      go_enter Tryz.func14, Tryz.ntmps14
      have r := Blk.new (((w.alloc (.cells #[.string (bs D.data), .slice A1 D.cache.length a1, .int .i64 D.fuse, .bool D.off, .slice A2 D.bad.length a2] 25)).alloc (.cells #[.slice B1 L.targets.length b1, .slice B2 L.data.length b2] 28)).alloc (.cells #[.int .u32 id, .int .i64 l1, .string (bs name)] 33)) 28 #[.slice B1 L.targets.length b1, .slice B2 L.data.length b2]
      simp only [World.size_alloc] at r
      have rk := blk2 r
      have rkf := r.frozen
      have hB_7 := hB_4.alloc hB_4.size (.cells #[.slice B1 L.targets.length b1, .slice B2 L.data.length b2] 28)
      have x_8 := x_5.alloc (.cells #[.slice B1 L.targets.length b1, .slice B2 L.data.length b2] 28)
      have xk_8 := blk5 x_8
      have z_9 := z_6.alloc (.cells #[.slice B1 L.targets.length b1, .slice B2 L.data.length b2] 28)
      have zk_9 := blk2 z_9
      have y_10 := y.alloc (.cells #[.slice B1 L.targets.length b1, .slice B2 L.data.length b2] 28)
      have yk_10 := blk3 y_10
      have i2 := Hz.out _ hB_7
      have b8 := hB_7
      have yy := rk
      go_wp2_with fail
      refine bodyPost_ret (v := .tuple #[pval L ⟨B1, b1⟩ ⟨B2, b2⟩, .int .i64 10]) (by simp [results, Tryz.results14, go_sem, yy]) rfl ?_
      rw [Hr.out]
      exact ⟨⟨⟨B1, b1⟩, ⟨B2, b2⟩, rfl, i2, fun g _ h => h⟩, b8⟩
    · have d0 : decide (i < 0) = false := decide_eq_false h0
      have d1 : decide ((8 : Int) ≤ i) = true := decide_eq_true (by omega)
      clear h hws hpt h0
      go_enter Tryz.func14, Tryz.ntmps14
      have r := Blk.new (((w.alloc (.cells #[.string (bs D.data), .slice A1 D.cache.length a1, .int .i64 D.fuse, .bool D.off, .slice A2 D.bad.length a2] 25)).alloc (.cells #[.slice B1 L.targets.length b1, .slice B2 L.data.length b2] 28)).alloc (.cells #[.int .u32 id, .int .i64 l1, .string (bs name)] 33)) 28 #[.slice B1 L.targets.length b1, .slice B2 L.data.length b2]
      simp only [World.size_alloc] at r
      have rk := blk2 r
      have rkf := r.frozen
      have hB_7 := hB_4.alloc hB_4.size (.cells #[.slice B1 L.targets.length b1, .slice B2 L.data.length b2] 28)
      have x_8 := x_5.alloc (.cells #[.slice B1 L.targets.length b1, .slice B2 L.data.length b2] 28)
      have xk_8 := blk5 x_8
      have z_9 := z_6.alloc (.cells #[.slice B1 L.targets.length b1, .slice B2 L.data.length b2] 28)
      have zk_9 := blk2 z_9
      have y_10 := y.alloc (.cells #[.slice B1 L.targets.length b1, .slice B2 L.data.length b2] 28)
      have yk_10 := blk3 y_10
      have i2 := Hz.out _ hB_7
      have b8 := hB_7
      have yy := rk
      go_wp2_with fail
      refine bodyPost_ret (v := .tuple #[pval L ⟨B1, b1⟩ ⟨B2, b2⟩, .int .i64 10]) (by simp [results, Tryz.results14, go_sem, yy]) rfl ?_
      rw [Hr.out]
      exact ⟨⟨⟨B1, b1⟩, ⟨B2, b2⟩, rfl, i2, fun g _ h => h⟩, b8⟩
  · have d0 : decide (i < 0) = false := decide_eq_false (by omega)
    have d1 : decide ((8 : Int) ≤ i) = false := decide_eq_false (by omega)
    cases hk : Sn.ok ⟨id, l1, name⟩ with
    | false =>
      have Hr := hid (show Pn.snSet D L i ⟨id, l1, name⟩ = (L, 25) by rw [Pn.snSet, if_neg h, if_pos hk])
      rw [hk] at hws
      clear h hpt hk
      have r := Blk.new (((w.alloc (.cells #[.string (bs D.data), .slice A1 D.cache.length a1, .int .i64 D.fuse, .bool D.off, .slice A2 D.bad.length a2] 25)).alloc (.cells #[.slice B1 L.targets.length b1, .slice B2 L.data.length b2] 28)).alloc (.cells #[.int .u32 id, .int .i64 l1, .string (bs name)] 33)) 28 #[.slice none 0 0, .slice none 0 0]
      simp only [World.size_alloc] at r
      have rk := blk2 r
      have rkf := r.frozen
      have hB_7 := hB_4.alloc hB_4.size (.cells #[.slice none 0 0, .slice none 0 0] 28)
      have x_8 := x_5.alloc (.cells #[.slice none 0 0, .slice none 0 0] 28)
      have xk_8 := blk5 x_8
      have z_9 := z_6.alloc (.cells #[.slice none 0 0, .slice none 0 0] 28)
      have zk_9 := blk2 z_9
      have y_10 := y.alloc (.cells #[.slice none 0 0, .slice none 0 0] 28)
      have yk_10 := blk3 y_10
      go_enter Tryz.func14, Tryz.ntmps14
      go_wp2_with fail
      go_at_call 52
      refine ((hws _)).mono ?_
      rintro e w1 ⟨⟨b, rfl, _⟩, hb1⟩
      replace hB := bt hB_7 hb1
      replace x := x_8.below hb1 x_8.lt
      replace xk := blk5 x
      replace z := z_9.below hb1 z_9.lt
      replace zk := blk2 z
      replace y := y_10.below hb1 y_10.lt
      replace yk := blk3 y
      replace r := r.below hb1 r.lt
      replace rk := blk2 r
      replace rkf := r.frozen
      clear hB_1 hB_2 xk_3 x_3 hB_4 xk_5 x_5 zk_6 z_6 hB_7 xk_8 x_8 zk_9 z_9 yk_10 y_10
      have hrl := r.lt
      have i0 := Hz.out _ hB
      have yy := blk2 (blk_set2 r (.slice B1 L.targets.length b1) (.slice B2 L.data.length b2))
      have i2 := i0.off2 (g := w.heap.size + 1 + 1 + 1) (hap _ (by omega)) (.slice B1 L.targets.length b1) (.slice B2 L.data.length b2)
      have b8 := below_set2 hB (g := w.heap.size + 1 + 1 + 1) (by omega) (.slice B1 L.targets.length b1) (.slice B2 L.data.length b2)
      go_wp2_with fail
      refine bodyPost_ret (v := .tuple #[pval L ⟨B1, b1⟩ ⟨B2, b2⟩, .int .i64 25]) (by simp [results, Tryz.results14, go_sem, yy]) rfl ?_
      rw [Hr.out]
      exact ⟨⟨⟨B1, b1⟩, ⟨B2, b2⟩, rfl, i2, fun g _ h => h⟩, b8⟩
    | true =>
      have hbl := Sn.bytes_length hk
      have Hr := hid (show Pn.snSet D L i ⟨id, l1, name⟩ = Pn.patch D L (Pn.snSec i) (Pn.snOff i) (Sn.bytes ⟨id, l1, name⟩) by rw [Pn.snSet, if_neg h, if_neg (by rw [hk]; simp)])
      rw [hk] at hws
      obtain ⟨k, rfl⟩ := Int.eq_ofNat_of_zero_le (show 0 ≤ i by omega)
      have hk8 : k < 8 := by omega
      have hp2 := fun (W : World) (hb : Below w.heap.size w W) => hpt W hb (Pn.snSec k) (Pn.snOff k) (Sn.bytes ⟨id, l1, name⟩) (by unfold Pn.snSec; omega) (by rw [hbl]; decide)
      have e1 : (2 : Int) + (k : Int) / 4 = Pn.snSec k := rfl
      have e2 : (k : Int) % 4 * 16 = Pn.snOff k := by unfold Pn.snOff; omega
      generalize Sn.bytes ⟨id, l1, name⟩ = T at *
      generalize Pn.snSec k = a at *
      generalize Pn.snOff k = o at *
      generalize Pn.patch D L a o T = X at *
      clear h hpt hk
      have r := Blk.new (((w.alloc (.cells #[.string (bs D.data), .slice A1 D.cache.length a1, .int .i64 D.fuse, .bool D.off, .slice A2 D.bad.length a2] 25)).alloc (.cells #[.slice B1 L.targets.length b1, .slice B2 L.data.length b2] 28)).alloc (.cells #[.int .u32 id, .int .i64 l1, .string (bs name)] 33)) 28 #[.slice none 0 0, .slice none 0 0]
      simp only [World.size_alloc] at r
      have rk := blk2 r
      have rkf := r.frozen
      have hB_7 := hB_4.alloc hB_4.size (.cells #[.slice none 0 0, .slice none 0 0] 28)
      have x_8 := x_5.alloc (.cells #[.slice none 0 0, .slice none 0 0] 28)
      have xk_8 := blk5 x_8
      have z_9 := z_6.alloc (.cells #[.slice none 0 0, .slice none 0 0] 28)
      have zk_9 := blk2 z_9
      have y_10 := y.alloc (.cells #[.slice none 0 0, .slice none 0 0] 28)
      have yk_10 := blk3 y_10
      go_enter Tryz.func14, Tryz.ntmps14
      go_wp2_with fail
      go_at_call 52
      refine ((hws _)).mono ?_
      rintro e w1 ⟨⟨b, rfl, hbt⟩, hb1⟩
      replace hB := bt hB_7 hb1
      replace x := x_8.below hb1 x_8.lt
      replace xk := blk5 x
      replace z := z_9.below hb1 z_9.lt
      replace zk := blk2 z
      replace y := y_10.below hb1 y_10.lt
      replace yk := blk3 y
      replace r := r.below hb1 r.lt
      replace rk := blk2 r
      replace rkf := r.frozen
      clear hB_1 hB_2 xk_3 x_3 hB_4 xk_5 x_5 zk_6 z_6 hB_7 xk_8 x_8 zk_9 z_9 yk_10 y_10
      have hrl := r.lt
      obtain rfl : b = T := hbt (by first | rfl | trivial)
      clear hbt
      skip
      skip
      go_wp2_with fail
      go_at_call 53
      refine ((hp2 _ hB)).mono ?_
      rintro e w3 ⟨⟨p3, q3, rfl, i3, o3⟩, hb3⟩
      replace hB := bt hB hb3
      replace x := x.below hb3 x.lt
      replace xk := blk5 x
      replace z := z.below hb3 z.lt
      replace zk := blk2 z
      replace y := y.below hb3 y.lt
      replace yk := blk3 y
      replace r := r.below hb3 r.lt
      replace rk := blk2 r
      replace rkf := r.frozen
      have or3 := o3 (w.heap.size + 1 + 1 + 1) (by omega) (hap _ (by omega))
      go_wp2_with fail
      have yy := blk2 (blk_set2 r (.slice p3.a X.1.targets.length p3.c) (.slice q3.a X.1.data.length q3.c))
      have i4 := i3.off2 or3 (.slice p3.a X.1.targets.length p3.c) (.slice q3.a X.1.data.length q3.c)
      have b8 := below_set2 hB (g := w.heap.size + 1 + 1 + 1) (by omega) (.slice p3.a X.1.targets.length p3.c) (.slice q3.a X.1.data.length q3.c)
      refine bodyPost_ret (v := .tuple #[pval X.1 p3 q3, .int .i64 X.2]) (by simp [results, Tryz.results14, go_sem, yy]) rfl ?_
      rw [Hr.out]
      exact ⟨⟨p3, q3, rfl, i4, fun g h1 h2 => o3 g (by omega) h2⟩, b8⟩
end Go.Proofs.YtjhnaeomaigimaaGreatDoor
