/- RootApart: another snapshot changes neither the root nor the dirty bitmaps, another bitmap neither the root nor the snapshots: any fit device of few writes, any plan, any of them. The listed variables of unicode/utf8 start as the program's text lays them (a tied card). -/
import Derived.Test.YtjhnaeomaigimaaGreatDoorLaw10b
import Derived.Test.YtjhnaeomaigimaaGreatDoorOpens
import Derived.Test.YtjhnaeomaigimaaGreatDoorCards
import Derived.Test.YtjhnaeomaigimaaGreatDoorTie
import Derived.ProofKit
import Derived.LaidMore
import Derived.Stop.Joined
import Derived.SevenTiedAt
set_option linter.unusedVariables false
namespace Go.Proofs.YtjhnaeomaigimaaGreatDoor.rootApart
open Go.RowKit Go.Shelf Go.WideShapes Go.ChangeShapes Go.ChangeAt Go.Joins
open Go.ChangeMaps (open_string shut_string)
attribute [local go_sem] bs_mk bs_append bs_extract bs_size bs_toList bs_get

set_option maxRecDepth 100000 in
theorem walk_no (D : Dk) (L : Pn) (p q p' q' : Pl) (i : Int) (s : Sn) (m : Dm) (w : World) (hi64 : okInt i) (hid9 : s.id < 4294967296) (hl1 : okInt s.l1) (hsn : s.name.length ≤ maxLen) (h64 : m.bits.length = 64) (hmn : m.name.length ≤ maxLen) (h0 : IsDk0 w D p q) (hbl : D.bad.length ≤ 17592186044416) (hL : IsPn w L p' q') (hg : good D L = false) :
    Calls Tryz.prog 4 #[dval D p q, pval L p' q', .int .i64 i, snval s, dmval m] w fun e w' => e = .returned (.bool true) ∧ Below w.heap.size w w' := by
  have hG := fun (W : World) (hb : Below w.heap.size w W) => good10 D L p q p' q' W (h0.below hb) (hL.below hb) hbl
  rw [hg] at hG
  clear h0 hL hg
  obtain ⟨A1, a1⟩ := p
  obtain ⟨A2, a2⟩ := q
  obtain ⟨B1, b1⟩ := p'
  obtain ⟨B2, b2⟩ := q'
  have a36 := Tryz.dm_agg
  have z36 := Tryz.dm_siz
  have hB := Below.refl w.heap.size w
  have x := Blk.new w 25 #[.string (bs D.data), .slice A1 D.cache.length a1, .int .i64 D.fuse, .bool D.off, .slice A2 D.bad.length a2]
  have xk := blk5 x
  have hB_1 := hB.alloc hB.size (.cells #[.string (bs D.data), .slice A1 D.cache.length a1, .int .i64 D.fuse, .bool D.off, .slice A2 D.bad.length a2] 25)
  have z := Blk.new (w.alloc (.cells #[.string (bs D.data), .slice A1 D.cache.length a1, .int .i64 D.fuse, .bool D.off, .slice A2 D.bad.length a2] 25)) 28 #[.slice B1 L.targets.length b1, .slice B2 L.data.length b2]
  simp only [World.size_alloc] at z
  have zk := blk2 z
  have hB_2 := hB_1.alloc hB_1.size (.cells #[.slice B1 L.targets.length b1, .slice B2 L.data.length b2] 28)
  have x_3 := x.alloc (.cells #[.slice B1 L.targets.length b1, .slice B2 L.data.length b2] 28)
  have xk_3 := blk5 x_3
  have y := Blk.new ((w.alloc (.cells #[.string (bs D.data), .slice A1 D.cache.length a1, .int .i64 D.fuse, .bool D.off, .slice A2 D.bad.length a2] 25)).alloc (.cells #[.slice B1 L.targets.length b1, .slice B2 L.data.length b2] 28)) 33 #[.int .u32 s.id, .int .i64 s.l1, .string (bs s.name)]
  simp only [World.size_alloc] at y
  have yk := blk3 y
  have hB_4 := hB_2.alloc hB_2.size (.cells #[.int .u32 s.id, .int .i64 s.l1, .string (bs s.name)] 33)
  have x_5 := x_3.alloc (.cells #[.int .u32 s.id, .int .i64 s.l1, .string (bs s.name)] 33)
  have xk_5 := blk5 x_5
  have z_6 := z.alloc (.cells #[.int .u32 s.id, .int .i64 s.l1, .string (bs s.name)] 33)
  have zk_6 := blk2 z_6
  have v := Blk.new (((w.alloc (.cells #[.string (bs D.data), .slice A1 D.cache.length a1, .int .i64 D.fuse, .bool D.off, .slice A2 D.bad.length a2] 25)).alloc (.cells #[.slice B1 L.targets.length b1, .slice B2 L.data.length b2] 28)).alloc (.cells #[.int .u32 s.id, .int .i64 s.l1, .string (bs s.name)] 33)) 36 (dmCells m).toArray
  simp only [World.size_alloc] at v
  have vk := Tryz.dm_all m h64 v
  have hB_7 := hB_4.alloc hB_4.size (.cells (dmCells m).toArray 36)
  have x_8 := x_5.alloc (.cells (dmCells m).toArray 36)
  have xk_8 := blk5 x_8
  have z_9 := z_6.alloc (.cells (dmCells m).toArray 36)
  have zk_9 := blk2 z_9
  have y_10 := y.alloc (.cells (dmCells m).toArray 36)
  have yk_10 := blk3 y_10
  go_enter Tryz.func4, Tryz.ntmps4
  go_wp2_with fail
  go_at_call 9
  refine ((hG _ hB_7)).mono ?_
  rintro e w1 ⟨rfl, hb1⟩
  replace hB := bt hB_7 hb1
  replace x := x_8.below hb1 x_8.lt
  replace xk := blk5 x
  replace z := z_9.below hb1 z_9.lt
  replace zk := blk2 z
  replace y := y_10.below hb1 y_10.lt
  replace yk := blk3 y
  replace v := v.below hb1 v.lt
  replace vk := Tryz.dm_all m h64 v
  clear hB_1 hB_2 xk_3 x_3 hB_4 xk_5 x_5 zk_6 z_6 hB_7 xk_8 x_8 zk_9 z_9 yk_10 y_10
  go_wp2_with fail
  go_at_call 10
  refine ((awake10 _)).mono ?_
  rintro e w2 ⟨rfl, hb2⟩
  replace hB := bt hB hb2
  replace x := x.below hb2 x.lt
  replace xk := blk5 x
  replace z := z.below hb2 z.lt
  replace zk := blk2 z
  replace y := y.below hb2 y.lt
  replace yk := blk3 y
  replace v := v.below hb2 v.lt
  replace vk := Tryz.dm_all m h64 v
  go_wp2_with fail
  go_ret
  exact ⟨rfl, hB⟩

set_option maxRecDepth 100000 in
set_option maxHeartbeats 2000000 in
theorem walk_ok (D : Dk) (L : Pn) (p q p' q' : Pl) (i : Int) (s : Sn) (m : Dm) (w : World) (hi64 : okInt i) (hid9 : s.id < 4294967296) (hl1 : okInt s.l1) (hsn : s.name.length ≤ maxLen) (h64 : m.bits.length = 64) (hmn : m.name.length ≤ maxLen) (h0 : IsDk0 w D p q) (hbl : D.bad.length ≤ 17592186044416) (hL : IsPn w L p' q') (hg : good D L = true) :
    Calls Tryz.prog 4 #[dval D p q, pval L p' q', .int .i64 i, snval s, dmval m] w fun e w' => e = .returned (.bool true) ∧ Below w.heap.size w w' := by
  obtain ⟨g1, g2, g3, g4⟩ := good_iff.1 hg
  have hD := h0.full (by omega) hbl (by omega)
  have hG := fun (W : World) (hb : Below w.heap.size w W) => good10 D L p q p' q' W (h0.below hb) (hL.below hb) hbl
  rw [hg] at hG
  have hdl := (Dk.fit_parts g3).2.2.1
  have ht6 : L.targets.length ≤ 1000000 := by have := g4.2.1; omega
  have h1 := fun (W : World) (hb : Below w.heap.size w W) => rt_setSnap D L p q p' q' W (hD.below hb) (hL.below hb) g3 g4 i s hid9 hl1 hsn hi64
  have h2 := fun (W : World) (hb : Below w.heap.size w W) => rt_setMap L p' q' W (hL.below hb) ht6 g4.1 i m h64 hmn hi64
  have hX1 := snSet_fit g3 g4 i s
  have hX2 := dmSet_fit g4 i m
  obtain ⟨ea1, ea2⟩ := snSet_apart g3 g4 i s
  obtain ⟨eb1, eb2⟩ := dmSet_apart g4 i m h64 D
  generalize Pn.snSet D L i s = S1 at *
  generalize Pn.dmSet L i m = S2 at *
  obtain ⟨X1, x1⟩ := S1
  obtain ⟨X2, x2⟩ := S2
  simp only at h1 h2 hX1 hX2 ea1 ea2 eb1 eb2
  have f1 := fun (W : World) (p1 q1 : Pl) (h : IsPn W X1 p1 q1) => r5_fit X1 p1 q1 W h
  have f2 := fun (W : World) (p1 q1 : Pl) (h : IsPn W X2 p1 q1) => r5_fit X2 p1 q1 W h
  rw [Pn.fit_iff.2 hX1] at f1
  rw [Pn.fit_iff.2 hX2] at f2
  have hDB := hid (fun (W : World) (hb : Below w.heap.size w W) => hD.below hb)
  have k1 := fun (W : World) (hb : Below w.heap.size w W) => r10_get D L p q p' q' W (hD.below hb) (hL.below hb) g3 g4
  have k2 := fun (W : World) (hb : Below w.heap.size w W) (p1 q1 : Pl) (h : IsPn W X1 p1 q1) => r10_get D X1 p q p1 q1 W (hD.below hb) h g3 hX1
  have k3 := fun (W : World) (hb : Below w.heap.size w W) (p1 q1 : Pl) (h : IsPn W X2 p1 q1) => r10_get D X2 p q p1 q1 W (hD.below hb) h g3 hX2
  have k4 := fun (W : World) (hb : Below w.heap.size w W) => r10_maps D L p q p' q' W (hD.below hb) (hL.below hb) g3 g4
  have k5 := fun (W : World) (hb : Below w.heap.size w W) (p1 q1 : Pl) (h : IsPn W X1 p1 q1) => r10_maps D X1 p q p1 q1 W (hD.below hb) h g3 hX1
  have k6 := fun (W : World) (hb : Below w.heap.size w W) => r10_snaps D L p q p' q' W (hD.below hb) (hL.below hb) g3 g4
  have k7 := fun (W : World) (hb : Below w.heap.size w W) (p1 q1 : Pl) (h : IsPn W X2 p1 q1) => r10_snaps D X2 p q p1 q1 W (hD.below hb) h g3 hX2
  rw [ea1] at k2
  rw [eb1] at k3
  rw [ea2] at k5
  rw [eb2] at k7
  clear hDB ea1 ea2 eb1 eb2
  have hls := snaps_small D L
  obtain ⟨hlm, hm64, hmnm⟩ := maps_small D L
  generalize Pn.rtGet D L = T1 at *
  generalize Pn.snaps D L = T2 at *
  generalize Pn.maps D L = T3 at *
  obtain ⟨⟨l0, n0⟩, y1⟩ := T1
  obtain ⟨LS, y2⟩ := T2
  obtain ⟨LM, y3⟩ := T3
  simp only at k1 k2 k3 k4 k5 k6 k7 hls hlm hm64 hmnm
  have hsr := fun (W : World) (A B : Option Addr) (c d : Nat) (hA : Cells W A (snCells LS)) (hB : Cells W B (snCells LS)) => r10_snapRow LS A B c d W hA hB (by omega)
  have hmr := fun (W : World) (A B : Option Addr) (c d : Nat) (hA : Cells W A (dmRows LM)) (hB : Cells W B (dmRows LM)) => r10_mapRow LM hm64 hmnm A B c d W hA hB (by omega)
  have a36 := Tryz.dm_agg
  have z36 := Tryz.dm_siz
  clear h0 hL hg hD g1 g2 g3 g4 hdl hX1 hX2 ht6 hls hlm hm64 hmnm
  obtain ⟨A1, a1⟩ := p
  obtain ⟨A2, a2⟩ := q
  obtain ⟨B1, b1⟩ := p'
  obtain ⟨B2, b2⟩ := q'
  have hB := Below.refl w.heap.size w
  have x := Blk.new w 25 #[.string (bs D.data), .slice A1 D.cache.length a1, .int .i64 D.fuse, .bool D.off, .slice A2 D.bad.length a2]
  have xk := blk5 x
  have hB_1 := hB.alloc hB.size (.cells #[.string (bs D.data), .slice A1 D.cache.length a1, .int .i64 D.fuse, .bool D.off, .slice A2 D.bad.length a2] 25)
  have z := Blk.new (w.alloc (.cells #[.string (bs D.data), .slice A1 D.cache.length a1, .int .i64 D.fuse, .bool D.off, .slice A2 D.bad.length a2] 25)) 28 #[.slice B1 L.targets.length b1, .slice B2 L.data.length b2]
  simp only [World.size_alloc] at z
  have zk := blk2 z
  have hB_2 := hB_1.alloc hB_1.size (.cells #[.slice B1 L.targets.length b1, .slice B2 L.data.length b2] 28)
  have x_3 := x.alloc (.cells #[.slice B1 L.targets.length b1, .slice B2 L.data.length b2] 28)
  have xk_3 := blk5 x_3
  have y := Blk.new ((w.alloc (.cells #[.string (bs D.data), .slice A1 D.cache.length a1, .int .i64 D.fuse, .bool D.off, .slice A2 D.bad.length a2] 25)).alloc (.cells #[.slice B1 L.targets.length b1, .slice B2 L.data.length b2] 28)) 33 #[.int .u32 s.id, .int .i64 s.l1, .string (bs s.name)]
  simp only [World.size_alloc] at y
  have yk := blk3 y
  have hB_4 := hB_2.alloc hB_2.size (.cells #[.int .u32 s.id, .int .i64 s.l1, .string (bs s.name)] 33)
  have x_5 := x_3.alloc (.cells #[.int .u32 s.id, .int .i64 s.l1, .string (bs s.name)] 33)
  have xk_5 := blk5 x_5
  have z_6 := z.alloc (.cells #[.int .u32 s.id, .int .i64 s.l1, .string (bs s.name)] 33)
  have zk_6 := blk2 z_6
  have v := Blk.new (((w.alloc (.cells #[.string (bs D.data), .slice A1 D.cache.length a1, .int .i64 D.fuse, .bool D.off, .slice A2 D.bad.length a2] 25)).alloc (.cells #[.slice B1 L.targets.length b1, .slice B2 L.data.length b2] 28)).alloc (.cells #[.int .u32 s.id, .int .i64 s.l1, .string (bs s.name)] 33)) 36 (dmCells m).toArray
  simp only [World.size_alloc] at v
  have vk := Tryz.dm_all m h64 v
  have hB_7 := hB_4.alloc hB_4.size (.cells (dmCells m).toArray 36)
  have x_8 := x_5.alloc (.cells (dmCells m).toArray 36)
  have xk_8 := blk5 x_8
  have z_9 := z_6.alloc (.cells (dmCells m).toArray 36)
  have zk_9 := blk2 z_9
  have y_10 := y.alloc (.cells (dmCells m).toArray 36)
  have yk_10 := blk3 y_10
  go_enter Tryz.func4, Tryz.ntmps4
  go_wp2_with fail
  go_at_call 9
  refine ((hG _ hB_7)).mono ?_
  rintro e w1 ⟨rfl, hb1⟩
  replace hB := bt hB_7 hb1
  replace x := x_8.below hb1 x_8.lt
  replace xk := blk5 x
  replace z := z_9.below hb1 z_9.lt
  replace zk := blk2 z
  replace y := y_10.below hb1 y_10.lt
  replace yk := blk3 y
  replace v := v.below hb1 v.lt
  replace vk := Tryz.dm_all m h64 v
  clear hB_1 hB_2 xk_3 x_3 hB_4 xk_5 x_5 zk_6 z_6 hB_7 xk_8 x_8 zk_9 z_9 yk_10 y_10
  go_wp2_with fail
  go_at_call 13
  refine ((h1 _ hB)).mono ?_
  rintro e w2 ⟨⟨p0, q0, rfl, i0, o0⟩, hb2⟩
  replace hB := bt hB hb2
  replace x := x.below hb2 x.lt
  replace xk := blk5 x
  replace z := z.below hb2 z.lt
  replace zk := blk2 z
  replace y := y.below hb2 y.lt
  replace yk := blk3 y
  replace v := v.below hb2 v.lt
  replace vk := Tryz.dm_all m h64 v
  clear o0
  have bi0 := Blk.new w2 28 #[.slice p0.a X1.targets.length p0.c, .slice q0.a X1.data.length q0.c]
  have bi0k := blk2 bi0
  have hB_11 := hB.alloc hB.size (.cells #[.slice p0.a X1.targets.length p0.c, .slice q0.a X1.data.length q0.c] 28)
  have x_12 := x.alloc (.cells #[.slice p0.a X1.targets.length p0.c, .slice q0.a X1.data.length q0.c] 28)
  have xk_12 := blk5 x_12
  have z_13 := z.alloc (.cells #[.slice p0.a X1.targets.length p0.c, .slice q0.a X1.data.length q0.c] 28)
  have zk_13 := blk2 z_13
  have y_14 := y.alloc (.cells #[.slice p0.a X1.targets.length p0.c, .slice q0.a X1.data.length q0.c] 28)
  have yk_14 := blk3 y_14
  have v_15 := v.alloc (.cells #[.slice p0.a X1.targets.length p0.c, .slice q0.a X1.data.length q0.c] 28)
  have vk_15 := Tryz.dm_all m h64 v_15
  have i0_16 := i0.below ((Below.refl _ _).alloc (Nat.le_refl _) (.cells #[.slice p0.a X1.targets.length p0.c, .slice q0.a X1.data.length q0.c] 28))
  go_wp2_with fail
  go_at_call 15
  refine ((h2 _ hB_11)).mono ?_
  rintro e w3 ⟨⟨p1, q1, rfl, i1, o1⟩, hb3⟩
  replace hB := bt hB_11 hb3
  replace x := x_12.below hb3 x_12.lt
  replace xk := blk5 x
  replace z := z_13.below hb3 z_13.lt
  replace zk := blk2 z
  replace y := y_14.below hb3 y_14.lt
  replace yk := blk3 y
  replace v := v_15.below hb3 v_15.lt
  replace vk := Tryz.dm_all m h64 v
  replace i0 := i0_16.below hb3
  replace bi0 := bi0.below hb3 bi0.lt
  replace bi0k := blk2 bi0
  clear hB_11 xk_12 x_12 zk_13 z_13 yk_14 y_14 vk_15 v_15 i0_16
  clear o1
  have bi1 := Blk.new w3 28 #[.slice p1.a X2.targets.length p1.c, .slice q1.a X2.data.length q1.c]
  have bi1k := blk2 bi1
  have hB_17 := hB.alloc hB.size (.cells #[.slice p1.a X2.targets.length p1.c, .slice q1.a X2.data.length q1.c] 28)
  have x_18 := x.alloc (.cells #[.slice p1.a X2.targets.length p1.c, .slice q1.a X2.data.length q1.c] 28)
  have xk_18 := blk5 x_18
  have z_19 := z.alloc (.cells #[.slice p1.a X2.targets.length p1.c, .slice q1.a X2.data.length q1.c] 28)
  have zk_19 := blk2 z_19
  have y_20 := y.alloc (.cells #[.slice p1.a X2.targets.length p1.c, .slice q1.a X2.data.length q1.c] 28)
  have yk_20 := blk3 y_20
  have v_21 := v.alloc (.cells #[.slice p1.a X2.targets.length p1.c, .slice q1.a X2.data.length q1.c] 28)
  have vk_21 := Tryz.dm_all m h64 v_21
  have i0_22 := i0.below ((Below.refl _ _).alloc (Nat.le_refl _) (.cells #[.slice p1.a X2.targets.length p1.c, .slice q1.a X2.data.length q1.c] 28))
  have bi0_23 := bi0.alloc (.cells #[.slice p1.a X2.targets.length p1.c, .slice q1.a X2.data.length q1.c] 28)
  have bi0k_23 := blk2 bi0_23
  have i1_24 := i1.below ((Below.refl _ _).alloc (Nat.le_refl _) (.cells #[.slice p1.a X2.targets.length p1.c, .slice q1.a X2.data.length q1.c] 28))
  go_wp2_with fail
  go_at_call 18
  refine ((f1 _ p0 q0 i0_22)).mono ?_
  rintro e w4 ⟨rfl, hb4⟩
  replace hB := bt hB_17 hb4
  replace x := x_18.below hb4 x_18.lt
  replace xk := blk5 x
  replace z := z_19.below hb4 z_19.lt
  replace zk := blk2 z
  replace y := y_20.below hb4 y_20.lt
  replace yk := blk3 y
  replace v := v_21.below hb4 v_21.lt
  replace vk := Tryz.dm_all m h64 v
  replace i0 := i0_22.below hb4
  replace bi0 := bi0_23.below hb4 bi0_23.lt
  replace bi0k := blk2 bi0
  replace i1 := i1_24.below hb4
  replace bi1 := bi1.below hb4 bi1.lt
  replace bi1k := blk2 bi1
  clear hB_17 xk_18 x_18 zk_19 z_19 yk_20 y_20 vk_21 v_21 i0_22 bi0k_23 bi0_23 i1_24
  go_wp2_with fail
  go_at_call 18
  refine ((f2 _ p1 q1 i1)).mono ?_
  rintro e w5 ⟨rfl, hb5⟩
  replace hB := bt hB hb5
  replace x := x.below hb5 x.lt
  replace xk := blk5 x
  replace z := z.below hb5 z.lt
  replace zk := blk2 z
  replace y := y.below hb5 y.lt
  replace yk := blk3 y
  replace v := v.below hb5 v.lt
  replace vk := Tryz.dm_all m h64 v
  replace i0 := i0.below hb5
  replace bi0 := bi0.below hb5 bi0.lt
  replace bi0k := blk2 bi0
  replace i1 := i1.below hb5
  replace bi1 := bi1.below hb5 bi1.lt
  replace bi1k := blk2 bi1
  go_wp2_with fail
  go_at_call 19
  refine ((k1 _ hB)).mono ?_
  rintro e w6 ⟨rfl, hb6⟩
  replace hB := bt hB hb6
  replace x := x.below hb6 x.lt
  replace xk := blk5 x
  replace z := z.below hb6 z.lt
  replace zk := blk2 z
  replace y := y.below hb6 y.lt
  replace yk := blk3 y
  replace v := v.below hb6 v.lt
  replace vk := Tryz.dm_all m h64 v
  replace i0 := i0.below hb6
  replace bi0 := bi0.below hb6 bi0.lt
  replace bi0k := blk2 bi0
  replace i1 := i1.below hb6
  replace bi1 := bi1.below hb6 bi1.lt
  replace bi1k := blk2 bi1
  have ra := Blk.new w6 31 #[.int .i64 l0, .int .u32 n0]
  have rak := blk2 ra
  have hB_25 := hB.alloc hB.size (.cells #[.int .i64 l0, .int .u32 n0] 31)
  have x_26 := x.alloc (.cells #[.int .i64 l0, .int .u32 n0] 31)
  have xk_26 := blk5 x_26
  have z_27 := z.alloc (.cells #[.int .i64 l0, .int .u32 n0] 31)
  have zk_27 := blk2 z_27
  have y_28 := y.alloc (.cells #[.int .i64 l0, .int .u32 n0] 31)
  have yk_28 := blk3 y_28
  have v_29 := v.alloc (.cells #[.int .i64 l0, .int .u32 n0] 31)
  have vk_29 := Tryz.dm_all m h64 v_29
  have i0_30 := i0.below ((Below.refl _ _).alloc (Nat.le_refl _) (.cells #[.int .i64 l0, .int .u32 n0] 31))
  have bi0_31 := bi0.alloc (.cells #[.int .i64 l0, .int .u32 n0] 31)
  have bi0k_31 := blk2 bi0_31
  have i1_32 := i1.below ((Below.refl _ _).alloc (Nat.le_refl _) (.cells #[.int .i64 l0, .int .u32 n0] 31))
  have bi1_33 := bi1.alloc (.cells #[.int .i64 l0, .int .u32 n0] 31)
  have bi1k_33 := blk2 bi1_33
  go_wp2_with fail
  go_at_call 19
  refine ((k2 _ hB_25 p0 q0 i0_30)).mono ?_
  rintro e w7 ⟨rfl, hb7⟩
  replace hB := bt hB_25 hb7
  replace x := x_26.below hb7 x_26.lt
  replace xk := blk5 x
  replace z := z_27.below hb7 z_27.lt
  replace zk := blk2 z
  replace y := y_28.below hb7 y_28.lt
  replace yk := blk3 y
  replace v := v_29.below hb7 v_29.lt
  replace vk := Tryz.dm_all m h64 v
  replace i0 := i0_30.below hb7
  replace bi0 := bi0_31.below hb7 bi0_31.lt
  replace bi0k := blk2 bi0
  replace i1 := i1_32.below hb7
  replace bi1 := bi1_33.below hb7 bi1_33.lt
  replace bi1k := blk2 bi1
  replace ra := ra.below hb7 ra.lt
  replace rak := blk2 ra
  clear hB_25 xk_26 x_26 zk_27 z_27 yk_28 y_28 vk_29 v_29 i0_30 bi0k_31 bi0_31 i1_32 bi1k_33 bi1_33
  have rb := Blk.new w7 31 #[.int .i64 l0, .int .u32 n0]
  have rbk := blk2 rb
  have hB_34 := hB.alloc hB.size (.cells #[.int .i64 l0, .int .u32 n0] 31)
  have x_35 := x.alloc (.cells #[.int .i64 l0, .int .u32 n0] 31)
  have xk_35 := blk5 x_35
  have z_36 := z.alloc (.cells #[.int .i64 l0, .int .u32 n0] 31)
  have zk_36 := blk2 z_36
  have y_37 := y.alloc (.cells #[.int .i64 l0, .int .u32 n0] 31)
  have yk_37 := blk3 y_37
  have v_38 := v.alloc (.cells #[.int .i64 l0, .int .u32 n0] 31)
  have vk_38 := Tryz.dm_all m h64 v_38
  have i0_39 := i0.below ((Below.refl _ _).alloc (Nat.le_refl _) (.cells #[.int .i64 l0, .int .u32 n0] 31))
  have bi0_40 := bi0.alloc (.cells #[.int .i64 l0, .int .u32 n0] 31)
  have bi0k_40 := blk2 bi0_40
  have i1_41 := i1.below ((Below.refl _ _).alloc (Nat.le_refl _) (.cells #[.int .i64 l0, .int .u32 n0] 31))
  have bi1_42 := bi1.alloc (.cells #[.int .i64 l0, .int .u32 n0] 31)
  have bi1k_42 := blk2 bi1_42
  have ra_43 := ra.alloc (.cells #[.int .i64 l0, .int .u32 n0] 31)
  have rak_43 := blk2 ra_43
  go_wp2_with fail
  go_at_call 19
  refine ((k3 _ hB_34 p1 q1 i1_41)).mono ?_
  rintro e w8 ⟨rfl, hb8⟩
  replace hB := bt hB_34 hb8
  replace x := x_35.below hb8 x_35.lt
  replace xk := blk5 x
  replace z := z_36.below hb8 z_36.lt
  replace zk := blk2 z
  replace y := y_37.below hb8 y_37.lt
  replace yk := blk3 y
  replace v := v_38.below hb8 v_38.lt
  replace vk := Tryz.dm_all m h64 v
  replace i0 := i0_39.below hb8
  replace bi0 := bi0_40.below hb8 bi0_40.lt
  replace bi0k := blk2 bi0
  replace i1 := i1_41.below hb8
  replace bi1 := bi1_42.below hb8 bi1_42.lt
  replace bi1k := blk2 bi1
  replace ra := ra_43.below hb8 ra_43.lt
  replace rak := blk2 ra
  replace rb := rb.below hb8 rb.lt
  replace rbk := blk2 rb
  clear hB_34 xk_35 x_35 zk_36 z_36 yk_37 y_37 vk_38 v_38 i0_39 bi0k_40 bi0_40 i1_41 bi1k_42 bi1_42 rak_43 ra_43
  have rc := Blk.new w8 31 #[.int .i64 l0, .int .u32 n0]
  have rck := blk2 rc
  have hB_44 := hB.alloc hB.size (.cells #[.int .i64 l0, .int .u32 n0] 31)
  have x_45 := x.alloc (.cells #[.int .i64 l0, .int .u32 n0] 31)
  have xk_45 := blk5 x_45
  have z_46 := z.alloc (.cells #[.int .i64 l0, .int .u32 n0] 31)
  have zk_46 := blk2 z_46
  have y_47 := y.alloc (.cells #[.int .i64 l0, .int .u32 n0] 31)
  have yk_47 := blk3 y_47
  have v_48 := v.alloc (.cells #[.int .i64 l0, .int .u32 n0] 31)
  have vk_48 := Tryz.dm_all m h64 v_48
  have i0_49 := i0.below ((Below.refl _ _).alloc (Nat.le_refl _) (.cells #[.int .i64 l0, .int .u32 n0] 31))
  have bi0_50 := bi0.alloc (.cells #[.int .i64 l0, .int .u32 n0] 31)
  have bi0k_50 := blk2 bi0_50
  have i1_51 := i1.below ((Below.refl _ _).alloc (Nat.le_refl _) (.cells #[.int .i64 l0, .int .u32 n0] 31))
  have bi1_52 := bi1.alloc (.cells #[.int .i64 l0, .int .u32 n0] 31)
  have bi1k_52 := blk2 bi1_52
  have ra_53 := ra.alloc (.cells #[.int .i64 l0, .int .u32 n0] 31)
  have rak_53 := blk2 ra_53
  have rb_54 := rb.alloc (.cells #[.int .i64 l0, .int .u32 n0] 31)
  have rbk_54 := blk2 rb_54
  go_wp2_with fail
  go_at_call 20
  refine ((k4 _ hB_44)).mono ?_
  rintro e w9 ⟨⟨v1, rfl, own1⟩, hb9⟩
  replace hB := bt hB_44 hb9
  replace x := x_45.below hb9 x_45.lt
  replace xk := blk5 x
  replace z := z_46.below hb9 z_46.lt
  replace zk := blk2 z
  replace y := y_47.below hb9 y_47.lt
  replace yk := blk3 y
  replace v := v_48.below hb9 v_48.lt
  replace vk := Tryz.dm_all m h64 v
  replace i0 := i0_49.below hb9
  replace bi0 := bi0_50.below hb9 bi0_50.lt
  replace bi0k := blk2 bi0
  replace i1 := i1_51.below hb9
  replace bi1 := bi1_52.below hb9 bi1_52.lt
  replace bi1k := blk2 bi1
  replace ra := ra_53.below hb9 ra_53.lt
  replace rak := blk2 ra
  replace rb := rb_54.below hb9 rb_54.lt
  replace rbk := blk2 rb
  replace rc := rc.below hb9 rc.lt
  replace rck := blk2 rc
  clear hB_44 xk_45 x_45 zk_46 z_46 yk_47 y_47 vk_48 v_48 i0_49 bi0k_50 bi0_50 i1_51 bi1k_52 bi1_52 rak_53 ra_53 rbk_54 rb_54
  obtain ⟨C1, c1, rfl, _⟩ := own_slice own1
  have cc1 := Cells.of_own own1
  go_wp2_with fail
  go_at_call 20
  refine ((k5 _ hB p0 q0 i0)).mono ?_
  rintro e w10 ⟨⟨v2, rfl, own2⟩, hb10⟩
  replace hB := bt hB hb10
  replace x := x.below hb10 x.lt
  replace xk := blk5 x
  replace z := z.below hb10 z.lt
  replace zk := blk2 z
  replace y := y.below hb10 y.lt
  replace yk := blk3 y
  replace v := v.below hb10 v.lt
  replace vk := Tryz.dm_all m h64 v
  replace i0 := i0.below hb10
  replace bi0 := bi0.below hb10 bi0.lt
  replace bi0k := blk2 bi0
  replace i1 := i1.below hb10
  replace bi1 := bi1.below hb10 bi1.lt
  replace bi1k := blk2 bi1
  replace ra := ra.below hb10 ra.lt
  replace rak := blk2 ra
  replace rb := rb.below hb10 rb.lt
  replace rbk := blk2 rb
  replace rc := rc.below hb10 rc.lt
  replace rck := blk2 rc
  replace cc1 := cc1.below hb10
  obtain ⟨C2, c2, rfl, _⟩ := own_slice own2
  have cc2 := Cells.of_own own2
  go_wp2_with fail
  go_at_call 21
  refine ((k6 _ hB)).mono ?_
  rintro e w11 ⟨⟨v3, rfl, own3⟩, hb11⟩
  replace hB := bt hB hb11
  replace x := x.below hb11 x.lt
  replace xk := blk5 x
  replace z := z.below hb11 z.lt
  replace zk := blk2 z
  replace y := y.below hb11 y.lt
  replace yk := blk3 y
  replace v := v.below hb11 v.lt
  replace vk := Tryz.dm_all m h64 v
  replace i0 := i0.below hb11
  replace bi0 := bi0.below hb11 bi0.lt
  replace bi0k := blk2 bi0
  replace i1 := i1.below hb11
  replace bi1 := bi1.below hb11 bi1.lt
  replace bi1k := blk2 bi1
  replace ra := ra.below hb11 ra.lt
  replace rak := blk2 ra
  replace rb := rb.below hb11 rb.lt
  replace rbk := blk2 rb
  replace rc := rc.below hb11 rc.lt
  replace rck := blk2 rc
  replace cc1 := cc1.below hb11
  replace cc2 := cc2.below hb11
  obtain ⟨C3, c3, rfl, _⟩ := own_slice own3
  have cc3 := Cells.of_own own3
  go_wp2_with fail
  go_at_call 21
  refine ((k7 _ hB p1 q1 i1)).mono ?_
  rintro e w12 ⟨⟨v4, rfl, own4⟩, hb12⟩
  replace hB := bt hB hb12
  replace x := x.below hb12 x.lt
  replace xk := blk5 x
  replace z := z.below hb12 z.lt
  replace zk := blk2 z
  replace y := y.below hb12 y.lt
  replace yk := blk3 y
  replace v := v.below hb12 v.lt
  replace vk := Tryz.dm_all m h64 v
  replace i0 := i0.below hb12
  replace bi0 := bi0.below hb12 bi0.lt
  replace bi0k := blk2 bi0
  replace i1 := i1.below hb12
  replace bi1 := bi1.below hb12 bi1.lt
  replace bi1k := blk2 bi1
  replace ra := ra.below hb12 ra.lt
  replace rak := blk2 ra
  replace rb := rb.below hb12 rb.lt
  replace rbk := blk2 rb
  replace rc := rc.below hb12 rc.lt
  replace rck := blk2 rc
  replace cc1 := cc1.below hb12
  replace cc2 := cc2.below hb12
  replace cc3 := cc3.below hb12
  obtain ⟨C4, c4, rfl, _⟩ := own_slice own4
  have cc4 := Cells.of_own own4
  clear own1 own2 own3 own4
  by_cases ex1 : x1 = 0
  · have ex1' : (x1 != 0) = false := by rw [ex1]; rfl
    clear ex1
    by_cases ex2 : x2 = 0
    · have ex2' : (x2 != 0) = false := by rw [ex2]; rfl
      clear ex2
      go_wp2_with fail
      go_at_call 22
      refine ((hmr _ C1 C2 c1 c2 cc1 cc2)).mono ?_
      rintro e w13 ⟨rfl, hb13⟩
      replace hB := bt hB hb13
      replace x := x.below hb13 x.lt
      replace xk := blk5 x
      replace z := z.below hb13 z.lt
      replace zk := blk2 z
      replace y := y.below hb13 y.lt
      replace yk := blk3 y
      replace v := v.below hb13 v.lt
      replace vk := Tryz.dm_all m h64 v
      replace i0 := i0.below hb13
      replace bi0 := bi0.below hb13 bi0.lt
      replace bi0k := blk2 bi0
      replace i1 := i1.below hb13
      replace bi1 := bi1.below hb13 bi1.lt
      replace bi1k := blk2 bi1
      replace ra := ra.below hb13 ra.lt
      replace rak := blk2 ra
      replace rb := rb.below hb13 rb.lt
      replace rbk := blk2 rb
      replace rc := rc.below hb13 rc.lt
      replace rck := blk2 rc
      replace cc1 := cc1.below hb13
      replace cc2 := cc2.below hb13
      replace cc3 := cc3.below hb13
      replace cc4 := cc4.below hb13
      go_wp2_with fail
      go_at_call 23
      refine ((hsr _ C3 C4 c3 c4 cc3 cc4)).mono ?_
      rintro e w14 ⟨rfl, hb14⟩
      replace hB := bt hB hb14
      replace x := x.below hb14 x.lt
      replace xk := blk5 x
      replace z := z.below hb14 z.lt
      replace zk := blk2 z
      replace y := y.below hb14 y.lt
      replace yk := blk3 y
      replace v := v.below hb14 v.lt
      replace vk := Tryz.dm_all m h64 v
      replace i0 := i0.below hb14
      replace bi0 := bi0.below hb14 bi0.lt
      replace bi0k := blk2 bi0
      replace i1 := i1.below hb14
      replace bi1 := bi1.below hb14 bi1.lt
      replace bi1k := blk2 bi1
      replace ra := ra.below hb14 ra.lt
      replace rak := blk2 ra
      replace rb := rb.below hb14 rb.lt
      replace rbk := blk2 rb
      replace rc := rc.below hb14 rc.lt
      replace rck := blk2 rc
      replace cc1 := cc1.below hb14
      replace cc2 := cc2.below hb14
      replace cc3 := cc3.below hb14
      replace cc4 := cc4.below hb14
      go_wp2_with fail
      go_at_call 10
      refine ((awake10 _)).mono ?_
      rintro e w15 ⟨rfl, hb15⟩
      replace hB := bt hB hb15
      replace x := x.below hb15 x.lt
      replace xk := blk5 x
      replace z := z.below hb15 z.lt
      replace zk := blk2 z
      replace y := y.below hb15 y.lt
      replace yk := blk3 y
      replace v := v.below hb15 v.lt
      replace vk := Tryz.dm_all m h64 v
      replace i0 := i0.below hb15
      replace bi0 := bi0.below hb15 bi0.lt
      replace bi0k := blk2 bi0
      replace i1 := i1.below hb15
      replace bi1 := bi1.below hb15 bi1.lt
      replace bi1k := blk2 bi1
      replace ra := ra.below hb15 ra.lt
      replace rak := blk2 ra
      replace rb := rb.below hb15 rb.lt
      replace rbk := blk2 rb
      replace rc := rc.below hb15 rc.lt
      replace rck := blk2 rc
      replace cc1 := cc1.below hb15
      replace cc2 := cc2.below hb15
      replace cc3 := cc3.below hb15
      replace cc4 := cc4.below hb15
      go_wp2_with fail
      go_ret
      exact ⟨rfl, hB⟩
    · have ex2' : (x2 != 0) = true := bne_iff_ne.2 ex2
      clear ex2
      go_wp2_with fail
      go_at_call 22
      refine ((hmr _ C1 C2 c1 c2 cc1 cc2)).mono ?_
      rintro e w13 ⟨rfl, hb13⟩
      replace hB := bt hB hb13
      replace x := x.below hb13 x.lt
      replace xk := blk5 x
      replace z := z.below hb13 z.lt
      replace zk := blk2 z
      replace y := y.below hb13 y.lt
      replace yk := blk3 y
      replace v := v.below hb13 v.lt
      replace vk := Tryz.dm_all m h64 v
      replace i0 := i0.below hb13
      replace bi0 := bi0.below hb13 bi0.lt
      replace bi0k := blk2 bi0
      replace i1 := i1.below hb13
      replace bi1 := bi1.below hb13 bi1.lt
      replace bi1k := blk2 bi1
      replace ra := ra.below hb13 ra.lt
      replace rak := blk2 ra
      replace rb := rb.below hb13 rb.lt
      replace rbk := blk2 rb
      replace rc := rc.below hb13 rc.lt
      replace rck := blk2 rc
      replace cc1 := cc1.below hb13
      replace cc2 := cc2.below hb13
      replace cc3 := cc3.below hb13
      replace cc4 := cc4.below hb13
      go_wp2_with fail
      go_at_call 10
      refine ((awake10 _)).mono ?_
      rintro e w15 ⟨rfl, hb15⟩
      replace hB := bt hB hb15
      replace x := x.below hb15 x.lt
      replace xk := blk5 x
      replace z := z.below hb15 z.lt
      replace zk := blk2 z
      replace y := y.below hb15 y.lt
      replace yk := blk3 y
      replace v := v.below hb15 v.lt
      replace vk := Tryz.dm_all m h64 v
      replace i0 := i0.below hb15
      replace bi0 := bi0.below hb15 bi0.lt
      replace bi0k := blk2 bi0
      replace i1 := i1.below hb15
      replace bi1 := bi1.below hb15 bi1.lt
      replace bi1k := blk2 bi1
      replace ra := ra.below hb15 ra.lt
      replace rak := blk2 ra
      replace rb := rb.below hb15 rb.lt
      replace rbk := blk2 rb
      replace rc := rc.below hb15 rc.lt
      replace rck := blk2 rc
      replace cc1 := cc1.below hb15
      replace cc2 := cc2.below hb15
      replace cc3 := cc3.below hb15
      replace cc4 := cc4.below hb15
      go_wp2_with fail
      go_ret
      exact ⟨rfl, hB⟩
  · have ex1' : (x1 != 0) = true := bne_iff_ne.2 ex1
    clear ex1
    by_cases ex2 : x2 = 0
    · have ex2' : (x2 != 0) = false := by rw [ex2]; rfl
      clear ex2
      go_wp2_with fail
      go_at_call 23
      refine ((hsr _ C3 C4 c3 c4 cc3 cc4)).mono ?_
      rintro e w14 ⟨rfl, hb14⟩
      replace hB := bt hB hb14
      replace x := x.below hb14 x.lt
      replace xk := blk5 x
      replace z := z.below hb14 z.lt
      replace zk := blk2 z
      replace y := y.below hb14 y.lt
      replace yk := blk3 y
      replace v := v.below hb14 v.lt
      replace vk := Tryz.dm_all m h64 v
      replace i0 := i0.below hb14
      replace bi0 := bi0.below hb14 bi0.lt
      replace bi0k := blk2 bi0
      replace i1 := i1.below hb14
      replace bi1 := bi1.below hb14 bi1.lt
      replace bi1k := blk2 bi1
      replace ra := ra.below hb14 ra.lt
      replace rak := blk2 ra
      replace rb := rb.below hb14 rb.lt
      replace rbk := blk2 rb
      replace rc := rc.below hb14 rc.lt
      replace rck := blk2 rc
      replace cc1 := cc1.below hb14
      replace cc2 := cc2.below hb14
      replace cc3 := cc3.below hb14
      replace cc4 := cc4.below hb14
      go_wp2_with fail
      go_at_call 10
      refine ((awake10 _)).mono ?_
      rintro e w15 ⟨rfl, hb15⟩
      replace hB := bt hB hb15
      replace x := x.below hb15 x.lt
      replace xk := blk5 x
      replace z := z.below hb15 z.lt
      replace zk := blk2 z
      replace y := y.below hb15 y.lt
      replace yk := blk3 y
      replace v := v.below hb15 v.lt
      replace vk := Tryz.dm_all m h64 v
      replace i0 := i0.below hb15
      replace bi0 := bi0.below hb15 bi0.lt
      replace bi0k := blk2 bi0
      replace i1 := i1.below hb15
      replace bi1 := bi1.below hb15 bi1.lt
      replace bi1k := blk2 bi1
      replace ra := ra.below hb15 ra.lt
      replace rak := blk2 ra
      replace rb := rb.below hb15 rb.lt
      replace rbk := blk2 rb
      replace rc := rc.below hb15 rc.lt
      replace rck := blk2 rc
      replace cc1 := cc1.below hb15
      replace cc2 := cc2.below hb15
      replace cc3 := cc3.below hb15
      replace cc4 := cc4.below hb15
      go_wp2_with fail
      go_ret
      exact ⟨rfl, hB⟩
    · have ex2' : (x2 != 0) = true := bne_iff_ne.2 ex2
      clear ex2
      go_wp2_with fail
      go_at_call 10
      refine ((awake10 _)).mono ?_
      rintro e w15 ⟨rfl, hb15⟩
      replace hB := bt hB hb15
      replace x := x.below hb15 x.lt
      replace xk := blk5 x
      replace z := z.below hb15 z.lt
      replace zk := blk2 z
      replace y := y.below hb15 y.lt
      replace yk := blk3 y
      replace v := v.below hb15 v.lt
      replace vk := Tryz.dm_all m h64 v
      replace i0 := i0.below hb15
      replace bi0 := bi0.below hb15 bi0.lt
      replace bi0k := blk2 bi0
      replace i1 := i1.below hb15
      replace bi1 := bi1.below hb15 bi1.lt
      replace bi1k := blk2 bi1
      replace ra := ra.below hb15 ra.lt
      replace rak := blk2 ra
      replace rb := rb.below hb15 rb.lt
      replace rbk := blk2 rb
      replace rc := rc.below hb15 rc.lt
      replace rck := blk2 rc
      replace cc1 := cc1.below hb15
      replace cc2 := cc2.below hb15
      replace cc3 := cc3.below hb15
      replace cc4 := cc4.below hb15
      go_wp2_with fail
      go_ret
      exact ⟨rfl, hB⟩
theorem walk (w : World) (D : Dk) (p q : Pl) (hD : IsDk0 w D p q ∧ D.cache.length * Tryz.prog.bytesOf 140 ≤ reachBytes ∧ D.bad.length * Tryz.prog.bytesOf 3 ≤ reachBytes) (L : Pn) (p' q' : Pl) (hL : IsPn w L p' q') (i : Int) (wi : (Lit.int .i64 i).wf = true) (s : Sn) (hid9 : s.id < 4294967296) (hl1 : okInt s.l1) (hsn : s.name.length ≤ maxLen) (m : Dm) (hmn : m.name.length ≤ maxLen) (h64 : m.bits.length = 64) :
    Calls Tryz.prog 4 #[dval D p q, pval L p' q', .int .i64 i, snval s, dmval m] w fun e w' => e = .returned (.bool true) ∧ Below w.heap.size w w' := by
  obtain ⟨hD, c1, b1⟩ := hD
  rw [show Tryz.prog.bytesOf 3 = 8 by kernel_rfl] at b1
  unfold reachBytes at b1
  have hi64 := okInt_of wi
  cases hg : good D L with
  | false => exact walk_no D L p q p' q' i s m w hi64 hid9 hl1 hsn h64 hmn hD (by omega) hL hg
  | true => exact walk_ok D L p q p' q' i s m w hi64 hid9 hl1 hsn h64 hmn hD (by omega) hL hg
/-! ### The row: the listed variables lie in the witness's world as the condition says -/
theorem own : ownKnob Tryz.prog.godebug = none := by kernel_rfl
/-- Utf8's table of first bytes, cell by cell. -/
def firstCells : Array Value := match Go.Pinned.utf8First with | .agg l => (l.map fun | .lit (.int k m) => Value.int k m | _ => undef).toArray | _ => #[]
/-- The heap that the door's own run leaves, with the pinned table laid. -/
noncomputable def laidWorld (os : Os) : World :=
  let w0 := World.doorLaid Tryz.prog 4000 os
  { w0 with heap := w0.heap.modify 1 fun | .cells _ t fr => .cells firstCells t fr | o => o }
set_option maxRecDepth 100000 in
theorem door_met (os : Os) (args : Array Value) : laidMetH Tryz.prog Rows.rootApartRow.laid ((laidWorld os).forCall (fun _ _ => 0) ⟨#[], args, []⟩).memory :=
  laidMetH_of_parts3 (fuel := 8) (laidMet_of_run' 8 (by kernel_rfl) (by kernel_rfl)) (by kernel_rfl) (by kernel_rfl)
set_option maxRecDepth 100000 in
theorem lifted (os : Os) (started : os.Started) (H : Type) (enc : TypeId × Value → H) :
    ReturnsInHanded {} Tryz.checked os 4 .any (fun w args => (Rows.rootApartSpec.pre enc Tryz.prog Tryz.f4 [] false w args ∧ laidMetH Tryz.prog Rows.rootApartRow.laid w) ∧ sizedMet enc Tryz.prog Tryz.f4 (OpenSpec.ofChange Rows.rootApartSpec) false w args)
      (Rows.rootApartSpec.post enc Tryz.prog Tryz.f4 false true false false) := by
  refine returnsInHanded_of_change_and (C := Tryz.checked) (X := fun w _ => laidMetH Tryz.prog Rows.rootApartRow.laid w) (fun _ _ _ hh h => h.of_heap hh) own started (by kernel_rfl) Tryz.func4
    (ChangeSpec.witness_shaped (enc := enc) (C := Tryz.checked) (os := os) (X := fun w _ => laidMetH Tryz.prog Rows.rootApartRow.laid w) false (laidWorld os) #[.agg #[.string ByteArray.empty, .slice none 0 0, .int .i64 0, .bool false, .slice none 0 0], .agg #[.slice none 0 0, .slice none 0 0], .int .i64 0, .agg #[.int .u32 0, .int .i64 0, .string ByteArray.empty], dmval Dm.zero] 8 rfl (World.shaped_of_RefB (by kernel_rfl) (by kernel_rfl)) (by kernel_rfl) (by kernel_rfl) (by kernel_rfl) (door_met os _)) ?_
  intro W base args ds gs before hval0 hW _ hsz0 hL _
  have hval : ∀ (j : Nat) t v, Tryz.f4.params[j]? = some t → args[j]? = some v → Value.okWide Tryz.prog W .any base t v := hval0
  have hW' := hW
  obtain ⟨p, q, hA0, hV, rfl, hfz, hnd⟩ := hW
  have hA : DataW.TrodAll enc Tryz.prog W 0 (fun _ => true) true Tryz.f4.params.toList args.toList ds p := hA0
  have hAk := hA
  have hsz : (DataW.weightsEach Tryz.prog (Tryz.f4.params.toList ++ Rows.rootApartSpec.plain.varTypes Tryz.prog) (ds ++ gs)).all (· ≤ reachBytes) = true := hsz0
  rw [Tryz.params4] at hA hval hsz
  obtain ⟨v0, vs0, d0, ds0, p0, q0, hargs, rfl, rfl, h0, r0⟩ := trodAll_cons hA
  obtain ⟨v1, vs1, d1, ds1, p1, q1, rfl, rfl, rfl, h1, r1⟩ := trodAll_cons r0
  obtain ⟨v2, vs2, d2, ds2, p2, q2, rfl, rfl, rfl, h2, r2⟩ := trodAll_cons r1
  obtain ⟨v3, vs3, d3, ds3, p3, q3, rfl, rfl, rfl, h3, r3⟩ := trodAll_cons r2
  obtain ⟨v4, vs4, d4, ds4, p4, q4, rfl, rfl, rfl, h4, r4⟩ := trodAll_cons r3
  obtain ⟨rfl, rfl, rfl⟩ := trodAll_nil r4
  obtain rfl : args = #[v0, v1, v2, v3, v4] := by cases args; simp_all
  obtain ⟨rfl, rfl⟩ := trodVars_none hV
  obtain ⟨D0, P0, Q0, rfl, w0⟩ := open_dk_sized Tryz.underlying25 (by kernel_rfl) (by kernel_rfl) Tryz.underlying9 Tryz.underlying22 Tryz.underlying3 Tryz.underlying4 Tryz.underlying23 Tryz.underlying140 (by kernel_rfl) (by kernel_rfl) Tryz.underlying3 Tryz.underlying9 Tryz.underlying3 (by kernel_rfl) (hval 0 25 v0 rfl rfl) h0 (weights_each hsz (j := 0) rfl rfl)
  obtain ⟨D1, P1, Q1, rfl, w1⟩ := open_plan Tryz.underlying28 (by kernel_rfl) (by kernel_rfl) Tryz.underlying23 Tryz.underlying26 Tryz.underlying3 (by kernel_rfl) Tryz.underlying9 (by kernel_rfl) (hval 1 28 v1 rfl rfl) h1
  obtain ⟨a2, rfl, rfl, rfl, w2⟩ := open_int Tryz.underlying3 (hval 2 3 v2 rfl rfl) h2
  obtain ⟨s3, rfl, w3, x3, y3⟩ := open_snap Tryz.underlying33 ⟨rfl, by kernel_rfl⟩ ⟨rfl, by kernel_rfl⟩ ⟨rfl, by kernel_rfl⟩ (by kernel_rfl) Tryz.underlying29 Tryz.underlying3 Tryz.underlying9 (hval 3 33 v3 rfl rfl) h3
  obtain ⟨m4, rfl, w4, x4⟩ := open_dmap (e := 4) Tryz.underlying36 ⟨rfl, by kernel_rfl⟩ ⟨rfl, by kernel_rfl⟩ ⟨rfl, by kernel_rfl⟩ (by kernel_rfl) Tryz.underlying9 Tryz.underlying4 (by kernel_rfl) Tryz.underlying4 (by kernel_rfl) (hval 4 36 v4 rfl rfl) h4
  clear hA0 hval0
  simp only [List.append_nil] at hW'
  refine (walk W D0 P0 Q0 w0 D1 P1 Q1 w1 a2 w2 s3 w3 x3 y3 m4 w4 x4).mono fun e W' ⟨he, hb⟩ => ?_
  subst he
  exact ⟨_, rfl, post_of_below (pa := _) (pv := []) hW' (fun _ _ _ => (trodAll_cons_mk (shut_bool Tryz.underlying4 _) trodAll_mk0)) (fun sp hsp => trodAll_stays (by kernel_rfl) hb (by kernel_rfl) hAk (fun x hx => hW'.lt x (by simpa using hx)) (fun x hx => hsp x (by simpa using hx))) (fun _ _ => rfl) (by simp) hb (ok_one (by kernel_rfl) rfl (okWide_bool_mk Tryz.underlying4 _))⟩
theorem row_ : Rows.RootApartSaid :=
  OpenClaim.holds_of_wide 4 Tryz.f4 rfl rfl rfl rfl rfl rfl rfl ⟨rfl, rfl, rfl, rfl, rfl⟩ rfl rfl rfl rfl rfl (by kernel_rfl) Tryz.func4 (by kernel_rfl)
    (of_decide_eq_true (by kernel_rfl)) (by unfold Func.isWrapper; first | (rw [if_pos (by decide +kernel)]; kernel_rfl) | (rw [if_neg (by decide +kernel)]; exact ⟨rfl, rfl⟩))
    (fun os started H enc _ => lifted os started H enc)
/-- The statement: the tied card. -/
theorem proved : Rows.RootApartCardSaid :=
  Claim7.holds_tied_plain_at .later [] [.data, .pinned] true (true, "6b9e7ce7de9a16d9785a7455bb3b5bc5435f0f7736f535da66369f5655d9ce2b") false
    row_ (fun _ h => by cases h) (by kernel_rfl) (fun _ h => by cases h) rootApart_row_tie rfl ⟨rfl, rfl⟩ (by kernel_rfl) rfl
    (fun f fn hf hfn => by
      obtain rfl : f = 4 := Option.some.inj ((show Tryz.prog.funcNamed "cofferdam/cofferdamlaw10.RootApart" = some 4 by kernel_rfl).symm.trans hf) |>.symm
      obtain rfl : fn = Tryz.f4 := (Option.some.inj (Tryz.func4.symm.trans hfn)).symm
      exact ⟨by kernel_rfl, fun j t ht => by
        rw [Tryz.params4] at ht
        have hm : t ∈ [25, 28, 3, 33, 36] := by have := Array.mem_of_getElem? ht; simpa using this
        have hall : ([25, 28, 3, 33, 36].all fun u => !Tryz.prog.wantsStandIn u) = true := by kernel_rfl
        exact (show Tryz.prog.wantsStandIn t = false by simpa using List.all_eq_true.1 hall t hm)⟩)
    (by kernel_rfl)
#print axioms proved
end Go.Proofs.YtjhnaeomaigimaaGreatDoor.rootApart
