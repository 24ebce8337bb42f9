/- Package root, ref10: plans with another dirty bitmap. -/
import Derived.Test.YtjhnaeomaigimaaGreatDoorRoot17
set_option linter.unusedVariables false
namespace Go.Proofs.YtjhnaeomaigimaaGreatDoor
open Go.RowKit Go.Shelf
attribute [local go_sem] bs_mk bs_append bs_extract bs_size bs_toList bs_get
set_option maxRecDepth 100000 in
set_option maxHeartbeats 1000000 in
theorem rt_setMap (L : Pn) (p q : Pl) (w : World) (hL : IsPn w L p q) (ht : L.targets.length ≤ 1000000) (he : L.targets.length = L.data.length) (i : Int) (m : Dm) (h64 : m.bits.length = 64) (hm : m.name.length ≤ maxLen) (hi64 : okInt i) :
    Calls Tryz.prog 15 #[pval L p q, .int .i64 i, dmval m] w fun e w' => RetPn w.heap.size L p q (Pn.dmSet L i m) e w' ∧ Below w.heap.size w w' := by
  have hws := fun W => rt_writeMap m h64 hm W
  have Hz := hid (fun (W : World) (hb : Below w.heap.size w W) => hL.below hb)
  have hpt := fun (W : World) (hb : Below w.heap.size w W) (k : Int) (t : List UInt8) (h1 : -9223372036854775808 ≤ k ∧ k ≤ 9223372036854775807) (h2 : t.length ≤ 9223372036854775807) => pl_set L p q W (hL.below hb) k h1 t h2 ht he
  have hap := fun g (hg : w.heap.size ≤ g) => hL.apart hg
  have a36 := Tryz.dm_agg
  have z36 := Tryz.dm_siz
  clear hL ht he
  obtain ⟨A1, a1⟩ := p
  obtain ⟨A2, a2⟩ := q
  have hB := Below.refl w.heap.size w
  have z := Blk.new w 28 #[.slice A1 L.targets.length a1, .slice A2 L.data.length a2]
  have zk := blk2 z
  have hB_1 := hB.alloc hB.size (.cells #[.slice A1 L.targets.length a1, .slice A2 L.data.length a2] 28)
  have y := Blk.new (w.alloc (.cells #[.slice A1 L.targets.length a1, .slice A2 L.data.length a2] 28)) 36 (dmCells m).toArray
  simp only [World.size_alloc] at y
  have yk := Tryz.dm_all m h64 y
  have hB_2 := hB_1.alloc hB_1.size (.cells (dmCells m).toArray 36)
  have z_3 := z.alloc (.cells (dmCells m).toArray 36)
  have zk_3 := blk2 z_3
  by_cases h : i < 0 ∨ 2 ≤ i
  · have Hr := hid (show Pn.dmSet L i m = (L, 10) by rw [Pn.dmSet, if_pos h])
    by_cases h0 : i < 0
    · have d0 : decide (i < 0) = true := decide_eq_true h0
      clear h hws hpt h0
      go_enter Tryz.func15, Tryz.ntmps15
      have r := Blk.new ((w.alloc (.cells #[.slice A1 L.targets.length a1, .slice A2 L.data.length a2] 28)).alloc (.cells (dmCells m).toArray 36)) 28 #[.slice A1 L.targets.length a1, .slice A2 L.data.length a2]
      simp only [World.size_alloc] at r
      have rk := blk2 r
      have rkf := r.frozen
      have hB_4 := hB_2.alloc hB_2.size (.cells #[.slice A1 L.targets.length a1, .slice A2 L.data.length a2] 28)
      have z_5 := z_3.alloc (.cells #[.slice A1 L.targets.length a1, .slice A2 L.data.length a2] 28)
      have zk_5 := blk2 z_5
      have y_6 := y.alloc (.cells #[.slice A1 L.targets.length a1, .slice A2 L.data.length a2] 28)
      have yk_6 := Tryz.dm_all m h64 y_6
      have i2 := Hz.out _ hB_4
      have b8 := hB_4
      have yy := rk
      go_wp2_with fail
      refine bodyPost_ret (v := .tuple #[pval L ⟨A1, a1⟩ ⟨A2, a2⟩, .int .i64 10]) (by simp [results, Tryz.results15, go_sem, yy]) rfl ?_
      rw [Hr.out]
      exact ⟨⟨⟨A1, a1⟩, ⟨A2, a2⟩, rfl, i2, fun g _ h => h⟩, b8⟩
    · have d0 : decide (i < 0) = false := decide_eq_false h0
      have d1 : decide ((2 : Int) ≤ i) = true := decide_eq_true (by omega)
      clear h hws hpt h0
      go_enter Tryz.func15, Tryz.ntmps15
      have r := Blk.new ((w.alloc (.cells #[.slice A1 L.targets.length a1, .slice A2 L.data.length a2] 28)).alloc (.cells (dmCells m).toArray 36)) 28 #[.slice A1 L.targets.length a1, .slice A2 L.data.length a2]
      simp only [World.size_alloc] at r
      have rk := blk2 r
      have rkf := r.frozen
      have hB_4 := hB_2.alloc hB_2.size (.cells #[.slice A1 L.targets.length a1, .slice A2 L.data.length a2] 28)
      have z_5 := z_3.alloc (.cells #[.slice A1 L.targets.length a1, .slice A2 L.data.length a2] 28)
      have zk_5 := blk2 z_5
      have y_6 := y.alloc (.cells #[.slice A1 L.targets.length a1, .slice A2 L.data.length a2] 28)
      have yk_6 := Tryz.dm_all m h64 y_6
      have i2 := Hz.out _ hB_4
      have b8 := hB_4
      have yy := rk
      go_wp2_with fail
      refine bodyPost_ret (v := .tuple #[pval L ⟨A1, a1⟩ ⟨A2, a2⟩, .int .i64 10]) (by simp [results, Tryz.results15, go_sem, yy]) rfl ?_
      rw [Hr.out]
      exact ⟨⟨⟨A1, a1⟩, ⟨A2, a2⟩, rfl, i2, fun g _ h => h⟩, b8⟩
  · have d0 : decide (i < 0) = false := decide_eq_false (by omega)
    have d1 : decide ((2 : Int) ≤ i) = false := decide_eq_false (by omega)
    cases hk : m.ok with
    | false =>
      have Hr := hid (show Pn.dmSet L i m = (L, 25) by rw [Pn.dmSet, if_neg h, if_pos hk])
      rw [hk] at hws
      clear h hpt hk
      have r := Blk.new ((w.alloc (.cells #[.slice A1 L.targets.length a1, .slice A2 L.data.length a2] 28)).alloc (.cells (dmCells m).toArray 36)) 28 #[.slice none 0 0, .slice none 0 0]
      simp only [World.size_alloc] at r
      have rk := blk2 r
      have rkf := r.frozen
      have hB_4 := hB_2.alloc hB_2.size (.cells #[.slice none 0 0, .slice none 0 0] 28)
      have z_5 := z_3.alloc (.cells #[.slice none 0 0, .slice none 0 0] 28)
      have zk_5 := blk2 z_5
      have y_6 := y.alloc (.cells #[.slice none 0 0, .slice none 0 0] 28)
      have yk_6 := Tryz.dm_all m h64 y_6
      go_enter Tryz.func15, Tryz.ntmps15
      go_wp2_with fail
      go_at_call 54
      refine ((hws _)).mono ?_
      rintro e w1 ⟨⟨b, rfl, _⟩, hb1⟩
      replace hB := bt hB_4 hb1
      replace z := z_5.below hb1 z_5.lt
      replace zk := blk2 z
      replace y := y_6.below hb1 y_6.lt
      replace yk := Tryz.dm_all m h64 y
      replace r := r.below hb1 r.lt
      replace rk := blk2 r
      replace rkf := r.frozen
      clear hB_1 hB_2 zk_3 z_3 hB_4 zk_5 z_5 yk_6 y_6
      have hrl := r.lt
      have i0 := Hz.out _ hB
      have yy := blk2 (blk_set2 r (.slice A1 L.targets.length a1) (.slice A2 L.data.length a2))
      have i2 := i0.off2 (g := w.heap.size + 1 + 1) (hap _ (by omega)) (.slice A1 L.targets.length a1) (.slice A2 L.data.length a2)
      have b8 := below_set2 hB (g := w.heap.size + 1 + 1) (by omega) (.slice A1 L.targets.length a1) (.slice A2 L.data.length a2)
      go_wp2_with fail
      refine bodyPost_ret (v := .tuple #[pval L ⟨A1, a1⟩ ⟨A2, a2⟩, .int .i64 25]) (by simp [results, Tryz.results15, go_sem, yy]) rfl ?_
      rw [Hr.out]
      exact ⟨⟨⟨A1, a1⟩, ⟨A2, a2⟩, rfl, i2, fun g _ h => h⟩, b8⟩
    | true =>
      have hbl := Dm.bytes_length hk
      obtain ⟨a, e1⟩ : ∃ a : Int, 4 + i = a := ⟨_, rfl⟩
      have Hr := hid (show Pn.dmSet L i m = L.set a m.bytes by rw [Pn.dmSet, if_neg h, if_neg (by rw [hk]; simp), e1])
      rw [hk] at hws
      have hp2 := fun (W : World) (hb : Below w.heap.size w W) => hpt W hb a m.bytes (by omega) (by rw [hbl]; decide)
      have hsec : -9223372036854775808 ≤ a ∧ a ≤ 9223372036854775807 := by omega
      generalize m.bytes = T at *
      generalize L.set a T = X at *
      clear h hpt hk
      have r := Blk.new ((w.alloc (.cells #[.slice A1 L.targets.length a1, .slice A2 L.data.length a2] 28)).alloc (.cells (dmCells m).toArray 36)) 28 #[.slice none 0 0, .slice none 0 0]
      simp only [World.size_alloc] at r
      have rk := blk2 r
      have rkf := r.frozen
      have hB_4 := hB_2.alloc hB_2.size (.cells #[.slice none 0 0, .slice none 0 0] 28)
      have z_5 := z_3.alloc (.cells #[.slice none 0 0, .slice none 0 0] 28)
      have zk_5 := blk2 z_5
      have y_6 := y.alloc (.cells #[.slice none 0 0, .slice none 0 0] 28)
      have yk_6 := Tryz.dm_all m h64 y_6
      go_enter Tryz.func15, Tryz.ntmps15
      go_wp2_with fail
      go_at_call 54
      refine ((hws _)).mono ?_
      rintro e w1 ⟨⟨b, rfl, hbt⟩, hb1⟩
      replace hB := bt hB_4 hb1
      replace z := z_5.below hb1 z_5.lt
      replace zk := blk2 z
      replace y := y_6.below hb1 y_6.lt
      replace yk := Tryz.dm_all m h64 y
      replace r := r.below hb1 r.lt
      replace rk := blk2 r
      replace rkf := r.frozen
      clear hB_1 hB_2 zk_3 z_3 hB_4 zk_5 z_5 yk_6 y_6
      have hrl := r.lt
      obtain rfl : b = T := hbt (by first | rfl | trivial)
      clear hbt
      go_wp2_with fail
      go_at_call 44
      refine ((hp2 _ hB)).mono ?_
      rintro e w3 ⟨⟨p3, q3, rfl, i3, o3⟩, hb3⟩
      replace hB := bt hB hb3
      replace z := z.below hb3 z.lt
      replace zk := blk2 z
      replace y := y.below hb3 y.lt
      replace yk := Tryz.dm_all m h64 y
      replace r := r.below hb3 r.lt
      replace rk := blk2 r
      replace rkf := r.frozen
      have or3 := o3 (w.heap.size + 1 + 1) (by omega) (hap _ (by omega))
      go_wp2_with fail
      have yy := blk2 (blk_set2 r (.slice p3.a X.1.targets.length p3.c) (.slice q3.a X.1.data.length q3.c))
      have i4 := i3.off2 or3 (.slice p3.a X.1.targets.length p3.c) (.slice q3.a X.1.data.length q3.c)
      have b8 := below_set2 hB (g := w.heap.size + 1 + 1) (by omega) (.slice p3.a X.1.targets.length p3.c) (.slice q3.a X.1.data.length q3.c)
      refine bodyPost_ret (v := .tuple #[pval X.1 p3 q3, .int .i64 X.2]) (by simp [results, Tryz.results15, go_sem, yy]) rfl ?_
      rw [Hr.out]
      exact ⟨⟨p3, q3, rfl, i4, fun g h1 h2 => o3 g (by omega) h2⟩, b8⟩
set_option maxRecDepth 100000 in
set_option maxHeartbeats 1000000 in
theorem r10_setMap (L : Pn) (p q : Pl) (w : World) (hL : IsPn w L p q) (ht : L.targets.length ≤ 1000000) (he : L.targets.length = L.data.length) (i : Int) (m : Dm) (h64 : m.bits.length = 64) (hm : m.name.length ≤ maxLen) (hi64 : okInt i) :
    Calls Tryz.prog 16 #[pval L p q, .int .i64 i, dmval m] w fun e w' => RetPn w.heap.size L p q (Pn.dmSet L i m) e w' ∧ Below w.heap.size w w' := by
  have hws := fun W => r10_dmap m h64 hm W
  have Hz := hid (fun (W : World) (hb : Below w.heap.size w W) => hL.below hb)
  have hpt := fun (W : World) (hb : Below w.heap.size w W) (k : Int) (t : List UInt8) (h1 : -9223372036854775808 ≤ k ∧ k ≤ 9223372036854775807) (h2 : t.length ≤ 9223372036854775807) => r5_set L p q W (hL.below hb) k h1 t h2 ht he
  have hap := fun g (hg : w.heap.size ≤ g) => hL.apart hg
  have a36 := Tryz.dm_agg
  have z36 := Tryz.dm_siz
  clear hL ht he
  obtain ⟨A1, a1⟩ := p
  obtain ⟨A2, a2⟩ := q
  have hB := Below.refl w.heap.size w
  have z := Blk.new w 28 #[.slice A1 L.targets.length a1, .slice A2 L.data.length a2]
  have zk := blk2 z
  have hB_1 := hB.alloc hB.size (.cells #[.slice A1 L.targets.length a1, .slice A2 L.data.length a2] 28)
  have y := Blk.new (w.alloc (.cells #[.slice A1 L.targets.length a1, .slice A2 L.data.length a2] 28)) 36 (dmCells m).toArray
  simp only [World.size_alloc] at y
  have yk := Tryz.dm_all m h64 y
  have hB_2 := hB_1.alloc hB_1.size (.cells (dmCells m).toArray 36)
  have z_3 := z.alloc (.cells (dmCells m).toArray 36)
  have zk_3 := blk2 z_3
  by_cases h : i < 0 ∨ 2 ≤ i
  · have Hr := hid (show Pn.dmSet L i m = (L, 10) by rw [Pn.dmSet, if_pos h])
    by_cases h0 : i < 0
    · have d0 : decide (i < 0) = true := decide_eq_true h0
      clear h hws hpt h0
      go_enter Tryz.func16, Tryz.ntmps16
      have r := Blk.new ((w.alloc (.cells #[.slice A1 L.targets.length a1, .slice A2 L.data.length a2] 28)).alloc (.cells (dmCells m).toArray 36)) 28 #[.slice A1 L.targets.length a1, .slice A2 L.data.length a2]
      simp only [World.size_alloc] at r
      have rk := blk2 r
      have rkf := r.frozen
      have hB_4 := hB_2.alloc hB_2.size (.cells #[.slice A1 L.targets.length a1, .slice A2 L.data.length a2] 28)
      have z_5 := z_3.alloc (.cells #[.slice A1 L.targets.length a1, .slice A2 L.data.length a2] 28)
      have zk_5 := blk2 z_5
      have y_6 := y.alloc (.cells #[.slice A1 L.targets.length a1, .slice A2 L.data.length a2] 28)
      have yk_6 := Tryz.dm_all m h64 y_6
      have i2 := Hz.out _ hB_4
      have b8 := hB_4
      have yy := rk
      go_wp2_with fail
      refine bodyPost_ret (v := .tuple #[pval L ⟨A1, a1⟩ ⟨A2, a2⟩, .int .i64 10]) (by simp [results, Tryz.results16, go_sem, yy]) rfl ?_
      rw [Hr.out]
      exact ⟨⟨⟨A1, a1⟩, ⟨A2, a2⟩, rfl, i2, fun g _ h => h⟩, b8⟩
    · have d0 : decide (i < 0) = false := decide_eq_false h0
      have d1 : decide ((2 : Int) ≤ i) = true := decide_eq_true (by omega)
      clear h hws hpt h0
      go_enter Tryz.func16, Tryz.ntmps16
      have r := Blk.new ((w.alloc (.cells #[.slice A1 L.targets.length a1, .slice A2 L.data.length a2] 28)).alloc (.cells (dmCells m).toArray 36)) 28 #[.slice A1 L.targets.length a1, .slice A2 L.data.length a2]
      simp only [World.size_alloc] at r
      have rk := blk2 r
      have rkf := r.frozen
      have hB_4 := hB_2.alloc hB_2.size (.cells #[.slice A1 L.targets.length a1, .slice A2 L.data.length a2] 28)
      have z_5 := z_3.alloc (.cells #[.slice A1 L.targets.length a1, .slice A2 L.data.length a2] 28)
      have zk_5 := blk2 z_5
      have y_6 := y.alloc (.cells #[.slice A1 L.targets.length a1, .slice A2 L.data.length a2] 28)
      have yk_6 := Tryz.dm_all m h64 y_6
      have i2 := Hz.out _ hB_4
      have b8 := hB_4
      have yy := rk
      go_wp2_with fail
      refine bodyPost_ret (v := .tuple #[pval L ⟨A1, a1⟩ ⟨A2, a2⟩, .int .i64 10]) (by simp [results, Tryz.results16, go_sem, yy]) rfl ?_
      rw [Hr.out]
      exact ⟨⟨⟨A1, a1⟩, ⟨A2, a2⟩, rfl, i2, fun g _ h => h⟩, b8⟩
  · have d0 : decide (i < 0) = false := decide_eq_false (by omega)
    have d1 : decide ((2 : Int) ≤ i) = false := decide_eq_false (by omega)
    cases hk : m.ok with
    | false =>
      have Hr := hid (show Pn.dmSet L i m = (L, 25) by rw [Pn.dmSet, if_neg h, if_pos hk])
      rw [hk] at hws
      clear h hpt hk
      have r := Blk.new ((w.alloc (.cells #[.slice A1 L.targets.length a1, .slice A2 L.data.length a2] 28)).alloc (.cells (dmCells m).toArray 36)) 28 #[.slice none 0 0, .slice none 0 0]
      simp only [World.size_alloc] at r
      have rk := blk2 r
      have rkf := r.frozen
      have hB_4 := hB_2.alloc hB_2.size (.cells #[.slice none 0 0, .slice none 0 0] 28)
      have z_5 := z_3.alloc (.cells #[.slice none 0 0, .slice none 0 0] 28)
      have zk_5 := blk2 z_5
      have y_6 := y.alloc (.cells #[.slice none 0 0, .slice none 0 0] 28)
      have yk_6 := Tryz.dm_all m h64 y_6
      go_enter Tryz.func16, Tryz.ntmps16
      go_wp2_with fail
      go_at_call 55
      refine ((hws _)).mono ?_
      rintro e w1 ⟨⟨b, rfl, _⟩, hb1⟩
      replace hB := bt hB_4 hb1
      replace z := z_5.below hb1 z_5.lt
      replace zk := blk2 z
      replace y := y_6.below hb1 y_6.lt
      replace yk := Tryz.dm_all m h64 y
      replace r := r.below hb1 r.lt
      replace rk := blk2 r
      replace rkf := r.frozen
      clear hB_1 hB_2 zk_3 z_3 hB_4 zk_5 z_5 yk_6 y_6
      have hrl := r.lt
      have i0 := Hz.out _ hB
      have yy := blk2 (blk_set2 r (.slice A1 L.targets.length a1) (.slice A2 L.data.length a2))
      have i2 := i0.off2 (g := w.heap.size + 1 + 1) (hap _ (by omega)) (.slice A1 L.targets.length a1) (.slice A2 L.data.length a2)
      have b8 := below_set2 hB (g := w.heap.size + 1 + 1) (by omega) (.slice A1 L.targets.length a1) (.slice A2 L.data.length a2)
      go_wp2_with fail
      refine bodyPost_ret (v := .tuple #[pval L ⟨A1, a1⟩ ⟨A2, a2⟩, .int .i64 25]) (by simp [results, Tryz.results16, go_sem, yy]) rfl ?_
      rw [Hr.out]
      exact ⟨⟨⟨A1, a1⟩, ⟨A2, a2⟩, rfl, i2, fun g _ h => h⟩, b8⟩
    | true =>
      have hbl := Dm.bytes_length hk
      obtain ⟨a, e1⟩ : ∃ a : Int, 4 + i = a := ⟨_, rfl⟩
      have Hr := hid (show Pn.dmSet L i m = L.set a m.bytes by rw [Pn.dmSet, if_neg h, if_neg (by rw [hk]; simp), e1])
      rw [hk] at hws
      have hp2 := fun (W : World) (hb : Below w.heap.size w W) => hpt W hb a m.bytes (by omega) (by rw [hbl]; decide)
      have hsec : -9223372036854775808 ≤ a ∧ a ≤ 9223372036854775807 := by omega
      generalize m.bytes = T at *
      generalize L.set a T = X at *
      clear h hpt hk
      have r := Blk.new ((w.alloc (.cells #[.slice A1 L.targets.length a1, .slice A2 L.data.length a2] 28)).alloc (.cells (dmCells m).toArray 36)) 28 #[.slice none 0 0, .slice none 0 0]
      simp only [World.size_alloc] at r
      have rk := blk2 r
      have rkf := r.frozen
      have hB_4 := hB_2.alloc hB_2.size (.cells #[.slice none 0 0, .slice none 0 0] 28)
      have z_5 := z_3.alloc (.cells #[.slice none 0 0, .slice none 0 0] 28)
      have zk_5 := blk2 z_5
      have y_6 := y.alloc (.cells #[.slice none 0 0, .slice none 0 0] 28)
      have yk_6 := Tryz.dm_all m h64 y_6
      go_enter Tryz.func16, Tryz.ntmps16
      go_wp2_with fail
      go_at_call 55
      refine ((hws _)).mono ?_
      rintro e w1 ⟨⟨b, rfl, hbt⟩, hb1⟩
      replace hB := bt hB_4 hb1
      replace z := z_5.below hb1 z_5.lt
      replace zk := blk2 z
      replace y := y_6.below hb1 y_6.lt
      replace yk := Tryz.dm_all m h64 y
      replace r := r.below hb1 r.lt
      replace rk := blk2 r
      replace rkf := r.frozen
      clear hB_1 hB_2 zk_3 z_3 hB_4 zk_5 z_5 yk_6 y_6
      have hrl := r.lt
      obtain rfl : b = T := hbt (by first | rfl | trivial)
      clear hbt
      go_wp2_with fail
      go_at_call 47
      refine ((hp2 _ hB)).mono ?_
      rintro e w3 ⟨⟨p3, q3, rfl, i3, o3⟩, hb3⟩
      replace hB := bt hB hb3
      replace z := z.below hb3 z.lt
      replace zk := blk2 z
      replace y := y.below hb3 y.lt
      replace yk := Tryz.dm_all m h64 y
      replace r := r.below hb3 r.lt
      replace rk := blk2 r
      replace rkf := r.frozen
      have or3 := o3 (w.heap.size + 1 + 1) (by omega) (hap _ (by omega))
      go_wp2_with fail
      have yy := blk2 (blk_set2 r (.slice p3.a X.1.targets.length p3.c) (.slice q3.a X.1.data.length q3.c))
      have i4 := i3.off2 or3 (.slice p3.a X.1.targets.length p3.c) (.slice q3.a X.1.data.length q3.c)
      have b8 := below_set2 hB (g := w.heap.size + 1 + 1) (by omega) (.slice p3.a X.1.targets.length p3.c) (.slice q3.a X.1.data.length q3.c)
      refine bodyPost_ret (v := .tuple #[pval X.1 p3 q3, .int .i64 X.2]) (by simp [results, Tryz.results16, go_sem, yy]) rfl ?_
      rw [Hr.out]
      exact ⟨⟨p3, q3, rfl, i4, fun g h1 h2 => o3 g (by omega) h2⟩, b8⟩
end Go.Proofs.YtjhnaeomaigimaaGreatDoor
