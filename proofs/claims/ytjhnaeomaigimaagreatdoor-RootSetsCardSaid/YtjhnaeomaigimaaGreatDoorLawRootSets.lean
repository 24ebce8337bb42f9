/- RootSets: plans with another root, another snapshot, another dirty bitmap, are the document's: any fit device of few writes, any plan, any of them. The listed variables of unicode/utf8 start as the program's text lays them (a tied card). -/
import Derived.Test.YtjhnaeomaigimaaGreatDoorLaw10b
import Derived.Test.YtjhnaeomaigimaaGreatDoorOpens
import Derived.Test.YtjhnaeomaigimaaGreatDoorCards
import Derived.Test.YtjhnaeomaigimaaGreatDoorTie
import Derived.ProofKit
import Derived.LaidMore
import Derived.Stop.Joined
import Derived.SevenTiedAt
set_option linter.unusedVariables false
namespace Go.Proofs.YtjhnaeomaigimaaGreatDoor.rootSets
open Go.RowKit Go.Shelf Go.WideShapes Go.ChangeShapes Go.ChangeAt Go.Joins
open Go.ChangeMaps (open_string shut_string)
attribute [local go_sem] bs_mk bs_append bs_extract bs_size bs_toList bs_get

set_option maxRecDepth 100000 in
theorem walk_no (D : Dk) (L : Pn) (p q p' q' : Pl) (l : Int) (n : Nat) (i : Int) (s : Sn) (m : Dm) (w : World) (hn : n < 4294967296) (hi64 : okInt i) (hid9 : s.id < 4294967296) (hl1 : okInt s.l1) (hsn : s.name.length ≤ maxLen) (h64 : m.bits.length = 64) (hmn : m.name.length ≤ maxLen) (h0 : IsDk0 w D p q) (hbl : D.bad.length ≤ 17592186044416) (hL : IsPn w L p' q') (hg : good D L = false) :
    Calls Tryz.prog 3 #[dval D p q, pval L p' q', .agg #[.int .i64 l, .int .u32 n], .int .i64 i, snval s, dmval m] w fun e w' => e = .returned (.bool true) ∧ Below w.heap.size w w' := by
  have hG := fun (W : World) (hb : Below w.heap.size w W) => good10 D L p q p' q' W (h0.below hb) (hL.below hb) hbl
  rw [hg] at hG
  clear h0 hL hg
  obtain ⟨A1, a1⟩ := p
  obtain ⟨A2, a2⟩ := q
  obtain ⟨B1, b1⟩ := p'
  obtain ⟨B2, b2⟩ := q'
  have a36 := Tryz.dm_agg
  have z36 := Tryz.dm_siz
  have hB := Below.refl w.heap.size w
  have x := Blk.new w 25 #[.string (bs D.data), .slice A1 D.cache.length a1, .int .i64 D.fuse, .bool D.off, .slice A2 D.bad.length a2]
  have xk := blk5 x
  have hB_1 := hB.alloc hB.size (.cells #[.string (bs D.data), .slice A1 D.cache.length a1, .int .i64 D.fuse, .bool D.off, .slice A2 D.bad.length a2] 25)
  have z := Blk.new (w.alloc (.cells #[.string (bs D.data), .slice A1 D.cache.length a1, .int .i64 D.fuse, .bool D.off, .slice A2 D.bad.length a2] 25)) 28 #[.slice B1 L.targets.length b1, .slice B2 L.data.length b2]
  simp only [World.size_alloc] at z
  have zk := blk2 z
  have hB_2 := hB_1.alloc hB_1.size (.cells #[.slice B1 L.targets.length b1, .slice B2 L.data.length b2] 28)
  have x_3 := x.alloc (.cells #[.slice B1 L.targets.length b1, .slice B2 L.data.length b2] 28)
  have xk_3 := blk5 x_3
  have r := Blk.new ((w.alloc (.cells #[.string (bs D.data), .slice A1 D.cache.length a1, .int .i64 D.fuse, .bool D.off, .slice A2 D.bad.length a2] 25)).alloc (.cells #[.slice B1 L.targets.length b1, .slice B2 L.data.length b2] 28)) 31 #[.int .i64 l, .int .u32 n]
  simp only [World.size_alloc] at r
  have rk := blk2 r
  have hB_4 := hB_2.alloc hB_2.size (.cells #[.int .i64 l, .int .u32 n] 31)
  have x_5 := x_3.alloc (.cells #[.int .i64 l, .int .u32 n] 31)
  have xk_5 := blk5 x_5
  have z_6 := z.alloc (.cells #[.int .i64 l, .int .u32 n] 31)
  have zk_6 := blk2 z_6
  have y := Blk.new (((w.alloc (.cells #[.string (bs D.data), .slice A1 D.cache.length a1, .int .i64 D.fuse, .bool D.off, .slice A2 D.bad.length a2] 25)).alloc (.cells #[.slice B1 L.targets.length b1, .slice B2 L.data.length b2] 28)).alloc (.cells #[.int .i64 l, .int .u32 n] 31)) 33 #[.int .u32 s.id, .int .i64 s.l1, .string (bs s.name)]
  simp only [World.size_alloc] at y
  have yk := blk3 y
  have hB_7 := hB_4.alloc hB_4.size (.cells #[.int .u32 s.id, .int .i64 s.l1, .string (bs s.name)] 33)
  have x_8 := x_5.alloc (.cells #[.int .u32 s.id, .int .i64 s.l1, .string (bs s.name)] 33)
  have xk_8 := blk5 x_8
  have z_9 := z_6.alloc (.cells #[.int .u32 s.id, .int .i64 s.l1, .string (bs s.name)] 33)
  have zk_9 := blk2 z_9
  have r_10 := r.alloc (.cells #[.int .u32 s.id, .int .i64 s.l1, .string (bs s.name)] 33)
  have rk_10 := blk2 r_10
  have v := Blk.new ((((w.alloc (.cells #[.string (bs D.data), .slice A1 D.cache.length a1, .int .i64 D.fuse, .bool D.off, .slice A2 D.bad.length a2] 25)).alloc (.cells #[.slice B1 L.targets.length b1, .slice B2 L.data.length b2] 28)).alloc (.cells #[.int .i64 l, .int .u32 n] 31)).alloc (.cells #[.int .u32 s.id, .int .i64 s.l1, .string (bs s.name)] 33)) 36 (dmCells m).toArray
  simp only [World.size_alloc] at v
  have vk := Tryz.dm_all m h64 v
  have hB_11 := hB_7.alloc hB_7.size (.cells (dmCells m).toArray 36)
  have x_12 := x_8.alloc (.cells (dmCells m).toArray 36)
  have xk_12 := blk5 x_12
  have z_13 := z_9.alloc (.cells (dmCells m).toArray 36)
  have zk_13 := blk2 z_13
  have r_14 := r_10.alloc (.cells (dmCells m).toArray 36)
  have rk_14 := blk2 r_14
  have y_15 := y.alloc (.cells (dmCells m).toArray 36)
  have yk_15 := blk3 y_15
  go_enter Tryz.func3, Tryz.ntmps3
  go_wp2_with fail
  go_at_call 9
  refine ((hG _ hB_11)).mono ?_
  rintro e w1 ⟨rfl, hb1⟩
  replace hB := bt hB_11 hb1
  replace x := x_12.below hb1 x_12.lt
  replace xk := blk5 x
  replace z := z_13.below hb1 z_13.lt
  replace zk := blk2 z
  replace r := r_14.below hb1 r_14.lt
  replace rk := blk2 r
  replace y := y_15.below hb1 y_15.lt
  replace yk := blk3 y
  replace v := v.below hb1 v.lt
  replace vk := Tryz.dm_all m h64 v
  clear hB_1 hB_2 xk_3 x_3 hB_4 xk_5 x_5 zk_6 z_6 hB_7 xk_8 x_8 zk_9 z_9 rk_10 r_10 hB_11 xk_12 x_12 zk_13 z_13 rk_14 r_14 yk_15 y_15
  go_wp2_with fail
  go_at_call 10
  refine ((awake10 _)).mono ?_
  rintro e w2 ⟨rfl, hb2⟩
  replace hB := bt hB hb2
  replace x := x.below hb2 x.lt
  replace xk := blk5 x
  replace z := z.below hb2 z.lt
  replace zk := blk2 z
  replace r := r.below hb2 r.lt
  replace rk := blk2 r
  replace y := y.below hb2 y.lt
  replace yk := blk3 y
  replace v := v.below hb2 v.lt
  replace vk := Tryz.dm_all m h64 v
  go_wp2_with fail
  go_ret
  exact ⟨rfl, hB⟩

set_option maxRecDepth 100000 in
set_option maxHeartbeats 2000000 in
theorem walk_ok (D : Dk) (L : Pn) (p q p' q' : Pl) (l : Int) (n : Nat) (i : Int) (s : Sn) (m : Dm) (w : World) (hn : n < 4294967296) (hi64 : okInt i) (hid9 : s.id < 4294967296) (hl1 : okInt s.l1) (hsn : s.name.length ≤ maxLen) (h64 : m.bits.length = 64) (hmn : m.name.length ≤ maxLen) (h0 : IsDk0 w D p q) (hbl : D.bad.length ≤ 17592186044416) (hL : IsPn w L p' q') (hg : good D L = true) :
    Calls Tryz.prog 3 #[dval D p q, pval L p' q', .agg #[.int .i64 l, .int .u32 n], .int .i64 i, snval s, dmval m] w fun e w' => e = .returned (.bool true) ∧ Below w.heap.size w w' := by
  obtain ⟨g1, g2, g3, g4⟩ := good_iff.1 hg
  have hD := h0.full (by omega) hbl (by omega)
  have hG := fun (W : World) (hb : Below w.heap.size w W) => good10 D L p q p' q' W (h0.below hb) (hL.below hb) hbl
  rw [hg] at hG
  have hdl := (Dk.fit_parts g3).2.2.1
  have ht6 : L.targets.length ≤ 1000000 := by have := g4.2.1; omega
  have h1 := fun (W : World) (hb : Below w.heap.size w W) => rt_set L p' q' W (hL.below hb) ht6 g4.1 l n hn
  have h2 := fun (W : World) (hb : Below w.heap.size w W) => r10_setR L p' q' W (hL.below hb) ht6 g4.1 l n hn
  have h3 := fun (W : World) (hb : Below w.heap.size w W) => rt_setSnap D L p q p' q' W (hD.below hb) (hL.below hb) g3 g4 i s hid9 hl1 hsn hi64
  have h4 := fun (W : World) (hb : Below w.heap.size w W) => r10_setSnap D L p q p' q' W (hD.below hb) (hL.below hb) g3 g4 i s hid9 hl1 hsn hi64
  have h5 := fun (W : World) (hb : Below w.heap.size w W) => rt_setMap L p' q' W (hL.below hb) ht6 g4.1 i m h64 hmn hi64
  have h6 := fun (W : World) (hb : Below w.heap.size w W) => r10_setMap L p' q' W (hL.below hb) ht6 g4.1 i m h64 hmn hi64
  have hX1 := rtSet_fit g4 l n
  have hX2 := snSet_fit g3 g4 i s
  have hX3 := dmSet_fit g4 i m
  generalize Pn.rtSet L l n = S1 at *
  generalize Pn.snSet D L i s = S2 at *
  generalize Pn.dmSet L i m = S3 at *
  obtain ⟨X1, x1⟩ := S1
  obtain ⟨X2, x2⟩ := S2
  obtain ⟨X3, x3⟩ := S3
  simp only at h1 h2 h3 h4 h5 h6 hX1 hX2 hX3
  have hs1 := fun (W : World) (p1 q1 p2 q2 : Pl) (h : IsPn W X1 p1 q1) (h' : IsPn W X1 p2 q2) => r5_same X1 X1 p1 q1 p2 q2 W h h' (by have := hX1.2.1; omega) (by have := hX1.2.1; have := hX1.1; omega) (by have := hX1.2.1; omega) (by have := hX1.2.1; have := hX1.1; omega)
  rw [Pn.same_self] at hs1
  have hs2 := fun (W : World) (p1 q1 p2 q2 : Pl) (h : IsPn W X2 p1 q1) (h' : IsPn W X2 p2 q2) => r5_same X2 X2 p1 q1 p2 q2 W h h' (by have := hX2.2.1; omega) (by have := hX2.2.1; have := hX2.1; omega) (by have := hX2.2.1; omega) (by have := hX2.2.1; have := hX2.1; omega)
  rw [Pn.same_self] at hs2
  have hs3 := fun (W : World) (p1 q1 p2 q2 : Pl) (h : IsPn W X3 p1 q1) (h' : IsPn W X3 p2 q2) => r5_same X3 X3 p1 q1 p2 q2 W h h' (by have := hX3.2.1; omega) (by have := hX3.2.1; have := hX3.1; omega) (by have := hX3.2.1; omega) (by have := hX3.2.1; have := hX3.1; omega)
  rw [Pn.same_self] at hs3
  have a36 := Tryz.dm_agg
  have z36 := Tryz.dm_siz
  clear h0 hL hg hD g1 g2 g3 g4 hdl hX1 hX2 hX3 ht6
  obtain ⟨A1, a1⟩ := p
  obtain ⟨A2, a2⟩ := q
  obtain ⟨B1, b1⟩ := p'
  obtain ⟨B2, b2⟩ := q'
  have hB := Below.refl w.heap.size w
  have x := Blk.new w 25 #[.string (bs D.data), .slice A1 D.cache.length a1, .int .i64 D.fuse, .bool D.off, .slice A2 D.bad.length a2]
  have xk := blk5 x
  have hB_1 := hB.alloc hB.size (.cells #[.string (bs D.data), .slice A1 D.cache.length a1, .int .i64 D.fuse, .bool D.off, .slice A2 D.bad.length a2] 25)
  have z := Blk.new (w.alloc (.cells #[.string (bs D.data), .slice A1 D.cache.length a1, .int .i64 D.fuse, .bool D.off, .slice A2 D.bad.length a2] 25)) 28 #[.slice B1 L.targets.length b1, .slice B2 L.data.length b2]
  simp only [World.size_alloc] at z
  have zk := blk2 z
  have hB_2 := hB_1.alloc hB_1.size (.cells #[.slice B1 L.targets.length b1, .slice B2 L.data.length b2] 28)
  have x_3 := x.alloc (.cells #[.slice B1 L.targets.length b1, .slice B2 L.data.length b2] 28)
  have xk_3 := blk5 x_3
  have r := Blk.new ((w.alloc (.cells #[.string (bs D.data), .slice A1 D.cache.length a1, .int .i64 D.fuse, .bool D.off, .slice A2 D.bad.length a2] 25)).alloc (.cells #[.slice B1 L.targets.length b1, .slice B2 L.data.length b2] 28)) 31 #[.int .i64 l, .int .u32 n]
  simp only [World.size_alloc] at r
  have rk := blk2 r
  have hB_4 := hB_2.alloc hB_2.size (.cells #[.int .i64 l, .int .u32 n] 31)
  have x_5 := x_3.alloc (.cells #[.int .i64 l, .int .u32 n] 31)
  have xk_5 := blk5 x_5
  have z_6 := z.alloc (.cells #[.int .i64 l, .int .u32 n] 31)
  have zk_6 := blk2 z_6
  have y := Blk.new (((w.alloc (.cells #[.string (bs D.data), .slice A1 D.cache.length a1, .int .i64 D.fuse, .bool D.off, .slice A2 D.bad.length a2] 25)).alloc (.cells #[.slice B1 L.targets.length b1, .slice B2 L.data.length b2] 28)).alloc (.cells #[.int .i64 l, .int .u32 n] 31)) 33 #[.int .u32 s.id, .int .i64 s.l1, .string (bs s.name)]
  simp only [World.size_alloc] at y
  have yk := blk3 y
  have hB_7 := hB_4.alloc hB_4.size (.cells #[.int .u32 s.id, .int .i64 s.l1, .string (bs s.name)] 33)
  have x_8 := x_5.alloc (.cells #[.int .u32 s.id, .int .i64 s.l1, .string (bs s.name)] 33)
  have xk_8 := blk5 x_8
  have z_9 := z_6.alloc (.cells #[.int .u32 s.id, .int .i64 s.l1, .string (bs s.name)] 33)
  have zk_9 := blk2 z_9
  have r_10 := r.alloc (.cells #[.int .u32 s.id, .int .i64 s.l1, .string (bs s.name)] 33)
  have rk_10 := blk2 r_10
  have v := Blk.new ((((w.alloc (.cells #[.string (bs D.data), .slice A1 D.cache.length a1, .int .i64 D.fuse, .bool D.off, .slice A2 D.bad.length a2] 25)).alloc (.cells #[.slice B1 L.targets.length b1, .slice B2 L.data.length b2] 28)).alloc (.cells #[.int .i64 l, .int .u32 n] 31)).alloc (.cells #[.int .u32 s.id, .int .i64 s.l1, .string (bs s.name)] 33)) 36 (dmCells m).toArray
  simp only [World.size_alloc] at v
  have vk := Tryz.dm_all m h64 v
  have hB_11 := hB_7.alloc hB_7.size (.cells (dmCells m).toArray 36)
  have x_12 := x_8.alloc (.cells (dmCells m).toArray 36)
  have xk_12 := blk5 x_12
  have z_13 := z_9.alloc (.cells (dmCells m).toArray 36)
  have zk_13 := blk2 z_13
  have r_14 := r_10.alloc (.cells (dmCells m).toArray 36)
  have rk_14 := blk2 r_14
  have y_15 := y.alloc (.cells (dmCells m).toArray 36)
  have yk_15 := blk3 y_15
  go_enter Tryz.func3, Tryz.ntmps3
  go_wp2_with fail
  go_at_call 9
  refine ((hG _ hB_11)).mono ?_
  rintro e w1 ⟨rfl, hb1⟩
  replace hB := bt hB_11 hb1
  replace x := x_12.below hb1 x_12.lt
  replace xk := blk5 x
  replace z := z_13.below hb1 z_13.lt
  replace zk := blk2 z
  replace r := r_14.below hb1 r_14.lt
  replace rk := blk2 r
  replace y := y_15.below hb1 y_15.lt
  replace yk := blk3 y
  replace v := v.below hb1 v.lt
  replace vk := Tryz.dm_all m h64 v
  clear hB_1 hB_2 xk_3 x_3 hB_4 xk_5 x_5 zk_6 z_6 hB_7 xk_8 x_8 zk_9 z_9 rk_10 r_10 hB_11 xk_12 x_12 zk_13 z_13 rk_14 r_14 yk_15 y_15
  go_wp2_with fail
  go_at_call 11
  refine ((h1 _ hB)).mono ?_
  rintro e w2 ⟨⟨p0, q0, rfl, i0, o0⟩, hb2⟩
  replace hB := bt hB hb2
  replace x := x.below hb2 x.lt
  replace xk := blk5 x
  replace z := z.below hb2 z.lt
  replace zk := blk2 z
  replace r := r.below hb2 r.lt
  replace rk := blk2 r
  replace y := y.below hb2 y.lt
  replace yk := blk3 y
  replace v := v.below hb2 v.lt
  replace vk := Tryz.dm_all m h64 v
  clear o0
  have bi0 := Blk.new w2 28 #[.slice p0.a X1.targets.length p0.c, .slice q0.a X1.data.length q0.c]
  have bi0k := blk2 bi0
  have hB_16 := hB.alloc hB.size (.cells #[.slice p0.a X1.targets.length p0.c, .slice q0.a X1.data.length q0.c] 28)
  have x_17 := x.alloc (.cells #[.slice p0.a X1.targets.length p0.c, .slice q0.a X1.data.length q0.c] 28)
  have xk_17 := blk5 x_17
  have z_18 := z.alloc (.cells #[.slice p0.a X1.targets.length p0.c, .slice q0.a X1.data.length q0.c] 28)
  have zk_18 := blk2 z_18
  have r_19 := r.alloc (.cells #[.slice p0.a X1.targets.length p0.c, .slice q0.a X1.data.length q0.c] 28)
  have rk_19 := blk2 r_19
  have y_20 := y.alloc (.cells #[.slice p0.a X1.targets.length p0.c, .slice q0.a X1.data.length q0.c] 28)
  have yk_20 := blk3 y_20
  have v_21 := v.alloc (.cells #[.slice p0.a X1.targets.length p0.c, .slice q0.a X1.data.length q0.c] 28)
  have vk_21 := Tryz.dm_all m h64 v_21
  have i0_22 := i0.below ((Below.refl _ _).alloc (Nat.le_refl _) (.cells #[.slice p0.a X1.targets.length p0.c, .slice q0.a X1.data.length q0.c] 28))
  go_wp2_with fail
  go_at_call 12
  refine ((h2 _ hB_16)).mono ?_
  rintro e w3 ⟨⟨p1, q1, rfl, i1, o1⟩, hb3⟩
  replace hB := bt hB_16 hb3
  replace x := x_17.below hb3 x_17.lt
  replace xk := blk5 x
  replace z := z_18.below hb3 z_18.lt
  replace zk := blk2 z
  replace r := r_19.below hb3 r_19.lt
  replace rk := blk2 r
  replace y := y_20.below hb3 y_20.lt
  replace yk := blk3 y
  replace v := v_21.below hb3 v_21.lt
  replace vk := Tryz.dm_all m h64 v
  replace i0 := i0_22.below hb3
  replace bi0 := bi0.below hb3 bi0.lt
  replace bi0k := blk2 bi0
  clear hB_16 xk_17 x_17 zk_18 z_18 rk_19 r_19 yk_20 y_20 vk_21 v_21 i0_22
  clear o1
  have bi1 := Blk.new w3 28 #[.slice p1.a X1.targets.length p1.c, .slice q1.a X1.data.length q1.c]
  have bi1k := blk2 bi1
  have hB_23 := hB.alloc hB.size (.cells #[.slice p1.a X1.targets.length p1.c, .slice q1.a X1.data.length q1.c] 28)
  have x_24 := x.alloc (.cells #[.slice p1.a X1.targets.length p1.c, .slice q1.a X1.data.length q1.c] 28)
  have xk_24 := blk5 x_24
  have z_25 := z.alloc (.cells #[.slice p1.a X1.targets.length p1.c, .slice q1.a X1.data.length q1.c] 28)
  have zk_25 := blk2 z_25
  have r_26 := r.alloc (.cells #[.slice p1.a X1.targets.length p1.c, .slice q1.a X1.data.length q1.c] 28)
  have rk_26 := blk2 r_26
  have y_27 := y.alloc (.cells #[.slice p1.a X1.targets.length p1.c, .slice q1.a X1.data.length q1.c] 28)
  have yk_27 := blk3 y_27
  have v_28 := v.alloc (.cells #[.slice p1.a X1.targets.length p1.c, .slice q1.a X1.data.length q1.c] 28)
  have vk_28 := Tryz.dm_all m h64 v_28
  have i0_29 := i0.below ((Below.refl _ _).alloc (Nat.le_refl _) (.cells #[.slice p1.a X1.targets.length p1.c, .slice q1.a X1.data.length q1.c] 28))
  have bi0_30 := bi0.alloc (.cells #[.slice p1.a X1.targets.length p1.c, .slice q1.a X1.data.length q1.c] 28)
  have bi0k_30 := blk2 bi0_30
  have i1_31 := i1.below ((Below.refl _ _).alloc (Nat.le_refl _) (.cells #[.slice p1.a X1.targets.length p1.c, .slice q1.a X1.data.length q1.c] 28))
  go_wp2_with fail
  go_at_call 13
  refine ((h3 _ hB_23)).mono ?_
  rintro e w4 ⟨⟨p2, q2, rfl, i2, o2⟩, hb4⟩
  replace hB := bt hB_23 hb4
  replace x := x_24.below hb4 x_24.lt
  replace xk := blk5 x
  replace z := z_25.below hb4 z_25.lt
  replace zk := blk2 z
  replace r := r_26.below hb4 r_26.lt
  replace rk := blk2 r
  replace y := y_27.below hb4 y_27.lt
  replace yk := blk3 y
  replace v := v_28.below hb4 v_28.lt
  replace vk := Tryz.dm_all m h64 v
  replace i0 := i0_29.below hb4
  replace bi0 := bi0_30.below hb4 bi0_30.lt
  replace bi0k := blk2 bi0
  replace i1 := i1_31.below hb4
  replace bi1 := bi1.below hb4 bi1.lt
  replace bi1k := blk2 bi1
  clear hB_23 xk_24 x_24 zk_25 z_25 rk_26 r_26 yk_27 y_27 vk_28 v_28 i0_29 bi0k_30 bi0_30 i1_31
  clear o2
  have bi2 := Blk.new w4 28 #[.slice p2.a X2.targets.length p2.c, .slice q2.a X2.data.length q2.c]
  have bi2k := blk2 bi2
  have hB_32 := hB.alloc hB.size (.cells #[.slice p2.a X2.targets.length p2.c, .slice q2.a X2.data.length q2.c] 28)
  have x_33 := x.alloc (.cells #[.slice p2.a X2.targets.length p2.c, .slice q2.a X2.data.length q2.c] 28)
  have xk_33 := blk5 x_33
  have z_34 := z.alloc (.cells #[.slice p2.a X2.targets.length p2.c, .slice q2.a X2.data.length q2.c] 28)
  have zk_34 := blk2 z_34
  have r_35 := r.alloc (.cells #[.slice p2.a X2.targets.length p2.c, .slice q2.a X2.data.length q2.c] 28)
  have rk_35 := blk2 r_35
  have y_36 := y.alloc (.cells #[.slice p2.a X2.targets.length p2.c, .slice q2.a X2.data.length q2.c] 28)
  have yk_36 := blk3 y_36
  have v_37 := v.alloc (.cells #[.slice p2.a X2.targets.length p2.c, .slice q2.a X2.data.length q2.c] 28)
  have vk_37 := Tryz.dm_all m h64 v_37
  have i0_38 := i0.below ((Below.refl _ _).alloc (Nat.le_refl _) (.cells #[.slice p2.a X2.targets.length p2.c, .slice q2.a X2.data.length q2.c] 28))
  have bi0_39 := bi0.alloc (.cells #[.slice p2.a X2.targets.length p2.c, .slice q2.a X2.data.length q2.c] 28)
  have bi0k_39 := blk2 bi0_39
  have i1_40 := i1.below ((Below.refl _ _).alloc (Nat.le_refl _) (.cells #[.slice p2.a X2.targets.length p2.c, .slice q2.a X2.data.length q2.c] 28))
  have bi1_41 := bi1.alloc (.cells #[.slice p2.a X2.targets.length p2.c, .slice q2.a X2.data.length q2.c] 28)
  have bi1k_41 := blk2 bi1_41
  have i2_42 := i2.below ((Below.refl _ _).alloc (Nat.le_refl _) (.cells #[.slice p2.a X2.targets.length p2.c, .slice q2.a X2.data.length q2.c] 28))
  go_wp2_with fail
  go_at_call 14
  refine ((h4 _ hB_32)).mono ?_
  rintro e w5 ⟨⟨p3, q3, rfl, i3, o3⟩, hb5⟩
  replace hB := bt hB_32 hb5
  replace x := x_33.below hb5 x_33.lt
  replace xk := blk5 x
  replace z := z_34.below hb5 z_34.lt
  replace zk := blk2 z
  replace r := r_35.below hb5 r_35.lt
  replace rk := blk2 r
  replace y := y_36.below hb5 y_36.lt
  replace yk := blk3 y
  replace v := v_37.below hb5 v_37.lt
  replace vk := Tryz.dm_all m h64 v
  replace i0 := i0_38.below hb5
  replace bi0 := bi0_39.below hb5 bi0_39.lt
  replace bi0k := blk2 bi0
  replace i1 := i1_40.below hb5
  replace bi1 := bi1_41.below hb5 bi1_41.lt
  replace bi1k := blk2 bi1
  replace i2 := i2_42.below hb5
  replace bi2 := bi2.below hb5 bi2.lt
  replace bi2k := blk2 bi2
  clear hB_32 xk_33 x_33 zk_34 z_34 rk_35 r_35 yk_36 y_36 vk_37 v_37 i0_38 bi0k_39 bi0_39 i1_40 bi1k_41 bi1_41 i2_42
  clear o3
  have bi3 := Blk.new w5 28 #[.slice p3.a X2.targets.length p3.c, .slice q3.a X2.data.length q3.c]
  have bi3k := blk2 bi3
  have hB_43 := hB.alloc hB.size (.cells #[.slice p3.a X2.targets.length p3.c, .slice q3.a X2.data.length q3.c] 28)
  have x_44 := x.alloc (.cells #[.slice p3.a X2.targets.length p3.c, .slice q3.a X2.data.length q3.c] 28)
  have xk_44 := blk5 x_44
  have z_45 := z.alloc (.cells #[.slice p3.a X2.targets.length p3.c, .slice q3.a X2.data.length q3.c] 28)
  have zk_45 := blk2 z_45
  have r_46 := r.alloc (.cells #[.slice p3.a X2.targets.length p3.c, .slice q3.a X2.data.length q3.c] 28)
  have rk_46 := blk2 r_46
  have y_47 := y.alloc (.cells #[.slice p3.a X2.targets.length p3.c, .slice q3.a X2.data.length q3.c] 28)
  have yk_47 := blk3 y_47
  have v_48 := v.alloc (.cells #[.slice p3.a X2.targets.length p3.c, .slice q3.a X2.data.length q3.c] 28)
  have vk_48 := Tryz.dm_all m h64 v_48
  have i0_49 := i0.below ((Below.refl _ _).alloc (Nat.le_refl _) (.cells #[.slice p3.a X2.targets.length p3.c, .slice q3.a X2.data.length q3.c] 28))
  have bi0_50 := bi0.alloc (.cells #[.slice p3.a X2.targets.length p3.c, .slice q3.a X2.data.length q3.c] 28)
  have bi0k_50 := blk2 bi0_50
  have i1_51 := i1.below ((Below.refl _ _).alloc (Nat.le_refl _) (.cells #[.slice p3.a X2.targets.length p3.c, .slice q3.a X2.data.length q3.c] 28))
  have bi1_52 := bi1.alloc (.cells #[.slice p3.a X2.targets.length p3.c, .slice q3.a X2.data.length q3.c] 28)
  have bi1k_52 := blk2 bi1_52
  have i2_53 := i2.below ((Below.refl _ _).alloc (Nat.le_refl _) (.cells #[.slice p3.a X2.targets.length p3.c, .slice q3.a X2.data.length q3.c] 28))
  have bi2_54 := bi2.alloc (.cells #[.slice p3.a X2.targets.length p3.c, .slice q3.a X2.data.length q3.c] 28)
  have bi2k_54 := blk2 bi2_54
  have i3_55 := i3.below ((Below.refl _ _).alloc (Nat.le_refl _) (.cells #[.slice p3.a X2.targets.length p3.c, .slice q3.a X2.data.length q3.c] 28))
  go_wp2_with fail
  go_at_call 15
  refine ((h5 _ hB_43)).mono ?_
  rintro e w6 ⟨⟨p4, q4, rfl, i4, o4⟩, hb6⟩
  replace hB := bt hB_43 hb6
  replace x := x_44.below hb6 x_44.lt
  replace xk := blk5 x
  replace z := z_45.below hb6 z_45.lt
  replace zk := blk2 z
  replace r := r_46.below hb6 r_46.lt
  replace rk := blk2 r
  replace y := y_47.below hb6 y_47.lt
  replace yk := blk3 y
  replace v := v_48.below hb6 v_48.lt
  replace vk := Tryz.dm_all m h64 v
  replace i0 := i0_49.below hb6
  replace bi0 := bi0_50.below hb6 bi0_50.lt
  replace bi0k := blk2 bi0
  replace i1 := i1_51.below hb6
  replace bi1 := bi1_52.below hb6 bi1_52.lt
  replace bi1k := blk2 bi1
  replace i2 := i2_53.below hb6
  replace bi2 := bi2_54.below hb6 bi2_54.lt
  replace bi2k := blk2 bi2
  replace i3 := i3_55.below hb6
  replace bi3 := bi3.below hb6 bi3.lt
  replace bi3k := blk2 bi3
  clear hB_43 xk_44 x_44 zk_45 z_45 rk_46 r_46 yk_47 y_47 vk_48 v_48 i0_49 bi0k_50 bi0_50 i1_51 bi1k_52 bi1_52 i2_53 bi2k_54 bi2_54 i3_55
  clear o4
  have bi4 := Blk.new w6 28 #[.slice p4.a X3.targets.length p4.c, .slice q4.a X3.data.length q4.c]
  have bi4k := blk2 bi4
  have hB_56 := hB.alloc hB.size (.cells #[.slice p4.a X3.targets.length p4.c, .slice q4.a X3.data.length q4.c] 28)
  have x_57 := x.alloc (.cells #[.slice p4.a X3.targets.length p4.c, .slice q4.a X3.data.length q4.c] 28)
  have xk_57 := blk5 x_57
  have z_58 := z.alloc (.cells #[.slice p4.a X3.targets.length p4.c, .slice q4.a X3.data.length q4.c] 28)
  have zk_58 := blk2 z_58
  have r_59 := r.alloc (.cells #[.slice p4.a X3.targets.length p4.c, .slice q4.a X3.data.length q4.c] 28)
  have rk_59 := blk2 r_59
  have y_60 := y.alloc (.cells #[.slice p4.a X3.targets.length p4.c, .slice q4.a X3.data.length q4.c] 28)
  have yk_60 := blk3 y_60
  have v_61 := v.alloc (.cells #[.slice p4.a X3.targets.length p4.c, .slice q4.a X3.data.length q4.c] 28)
  have vk_61 := Tryz.dm_all m h64 v_61
  have i0_62 := i0.below ((Below.refl _ _).alloc (Nat.le_refl _) (.cells #[.slice p4.a X3.targets.length p4.c, .slice q4.a X3.data.length q4.c] 28))
  have bi0_63 := bi0.alloc (.cells #[.slice p4.a X3.targets.length p4.c, .slice q4.a X3.data.length q4.c] 28)
  have bi0k_63 := blk2 bi0_63
  have i1_64 := i1.below ((Below.refl _ _).alloc (Nat.le_refl _) (.cells #[.slice p4.a X3.targets.length p4.c, .slice q4.a X3.data.length q4.c] 28))
  have bi1_65 := bi1.alloc (.cells #[.slice p4.a X3.targets.length p4.c, .slice q4.a X3.data.length q4.c] 28)
  have bi1k_65 := blk2 bi1_65
  have i2_66 := i2.below ((Below.refl _ _).alloc (Nat.le_refl _) (.cells #[.slice p4.a X3.targets.length p4.c, .slice q4.a X3.data.length q4.c] 28))
  have bi2_67 := bi2.alloc (.cells #[.slice p4.a X3.targets.length p4.c, .slice q4.a X3.data.length q4.c] 28)
  have bi2k_67 := blk2 bi2_67
  have i3_68 := i3.below ((Below.refl _ _).alloc (Nat.le_refl _) (.cells #[.slice p4.a X3.targets.length p4.c, .slice q4.a X3.data.length q4.c] 28))
  have bi3_69 := bi3.alloc (.cells #[.slice p4.a X3.targets.length p4.c, .slice q4.a X3.data.length q4.c] 28)
  have bi3k_69 := blk2 bi3_69
  have i4_70 := i4.below ((Below.refl _ _).alloc (Nat.le_refl _) (.cells #[.slice p4.a X3.targets.length p4.c, .slice q4.a X3.data.length q4.c] 28))
  go_wp2_with fail
  go_at_call 16
  refine ((h6 _ hB_56)).mono ?_
  rintro e w7 ⟨⟨p5, q5, rfl, i5, o5⟩, hb7⟩
  replace hB := bt hB_56 hb7
  replace x := x_57.below hb7 x_57.lt
  replace xk := blk5 x
  replace z := z_58.below hb7 z_58.lt
  replace zk := blk2 z
  replace r := r_59.below hb7 r_59.lt
  replace rk := blk2 r
  replace y := y_60.below hb7 y_60.lt
  replace yk := blk3 y
  replace v := v_61.below hb7 v_61.lt
  replace vk := Tryz.dm_all m h64 v
  replace i0 := i0_62.below hb7
  replace bi0 := bi0_63.below hb7 bi0_63.lt
  replace bi0k := blk2 bi0
  replace i1 := i1_64.below hb7
  replace bi1 := bi1_65.below hb7 bi1_65.lt
  replace bi1k := blk2 bi1
  replace i2 := i2_66.below hb7
  replace bi2 := bi2_67.below hb7 bi2_67.lt
  replace bi2k := blk2 bi2
  replace i3 := i3_68.below hb7
  replace bi3 := bi3_69.below hb7 bi3_69.lt
  replace bi3k := blk2 bi3
  replace i4 := i4_70.below hb7
  replace bi4 := bi4.below hb7 bi4.lt
  replace bi4k := blk2 bi4
  clear hB_56 xk_57 x_57 zk_58 z_58 rk_59 r_59 yk_60 y_60 vk_61 v_61 i0_62 bi0k_63 bi0_63 i1_64 bi1k_65 bi1_65 i2_66 bi2k_67 bi2_67 i3_68 bi3k_69 bi3_69 i4_70
  clear o5
  have bi5 := Blk.new w7 28 #[.slice p5.a X3.targets.length p5.c, .slice q5.a X3.data.length q5.c]
  have bi5k := blk2 bi5
  have hB_71 := hB.alloc hB.size (.cells #[.slice p5.a X3.targets.length p5.c, .slice q5.a X3.data.length q5.c] 28)
  have x_72 := x.alloc (.cells #[.slice p5.a X3.targets.length p5.c, .slice q5.a X3.data.length q5.c] 28)
  have xk_72 := blk5 x_72
  have z_73 := z.alloc (.cells #[.slice p5.a X3.targets.length p5.c, .slice q5.a X3.data.length q5.c] 28)
  have zk_73 := blk2 z_73
  have r_74 := r.alloc (.cells #[.slice p5.a X3.targets.length p5.c, .slice q5.a X3.data.length q5.c] 28)
  have rk_74 := blk2 r_74
  have y_75 := y.alloc (.cells #[.slice p5.a X3.targets.length p5.c, .slice q5.a X3.data.length q5.c] 28)
  have yk_75 := blk3 y_75
  have v_76 := v.alloc (.cells #[.slice p5.a X3.targets.length p5.c, .slice q5.a X3.data.length q5.c] 28)
  have vk_76 := Tryz.dm_all m h64 v_76
  have i0_77 := i0.below ((Below.refl _ _).alloc (Nat.le_refl _) (.cells #[.slice p5.a X3.targets.length p5.c, .slice q5.a X3.data.length q5.c] 28))
  have bi0_78 := bi0.alloc (.cells #[.slice p5.a X3.targets.length p5.c, .slice q5.a X3.data.length q5.c] 28)
  have bi0k_78 := blk2 bi0_78
  have i1_79 := i1.below ((Below.refl _ _).alloc (Nat.le_refl _) (.cells #[.slice p5.a X3.targets.length p5.c, .slice q5.a X3.data.length q5.c] 28))
  have bi1_80 := bi1.alloc (.cells #[.slice p5.a X3.targets.length p5.c, .slice q5.a X3.data.length q5.c] 28)
  have bi1k_80 := blk2 bi1_80
  have i2_81 := i2.below ((Below.refl _ _).alloc (Nat.le_refl _) (.cells #[.slice p5.a X3.targets.length p5.c, .slice q5.a X3.data.length q5.c] 28))
  have bi2_82 := bi2.alloc (.cells #[.slice p5.a X3.targets.length p5.c, .slice q5.a X3.data.length q5.c] 28)
  have bi2k_82 := blk2 bi2_82
  have i3_83 := i3.below ((Below.refl _ _).alloc (Nat.le_refl _) (.cells #[.slice p5.a X3.targets.length p5.c, .slice q5.a X3.data.length q5.c] 28))
  have bi3_84 := bi3.alloc (.cells #[.slice p5.a X3.targets.length p5.c, .slice q5.a X3.data.length q5.c] 28)
  have bi3k_84 := blk2 bi3_84
  have i4_85 := i4.below ((Below.refl _ _).alloc (Nat.le_refl _) (.cells #[.slice p5.a X3.targets.length p5.c, .slice q5.a X3.data.length q5.c] 28))
  have bi4_86 := bi4.alloc (.cells #[.slice p5.a X3.targets.length p5.c, .slice q5.a X3.data.length q5.c] 28)
  have bi4k_86 := blk2 bi4_86
  have i5_87 := i5.below ((Below.refl _ _).alloc (Nat.le_refl _) (.cells #[.slice p5.a X3.targets.length p5.c, .slice q5.a X3.data.length q5.c] 28))
  go_wp2_with fail
  go_at_call 17
  refine ((hs1 _ p0 q0 p1 q1 i0_77 i1_79)).mono ?_
  rintro e w8 ⟨rfl, hb8⟩
  replace hB := bt hB_71 hb8
  replace x := x_72.below hb8 x_72.lt
  replace xk := blk5 x
  replace z := z_73.below hb8 z_73.lt
  replace zk := blk2 z
  replace r := r_74.below hb8 r_74.lt
  replace rk := blk2 r
  replace y := y_75.below hb8 y_75.lt
  replace yk := blk3 y
  replace v := v_76.below hb8 v_76.lt
  replace vk := Tryz.dm_all m h64 v
  replace i0 := i0_77.below hb8
  replace bi0 := bi0_78.below hb8 bi0_78.lt
  replace bi0k := blk2 bi0
  replace i1 := i1_79.below hb8
  replace bi1 := bi1_80.below hb8 bi1_80.lt
  replace bi1k := blk2 bi1
  replace i2 := i2_81.below hb8
  replace bi2 := bi2_82.below hb8 bi2_82.lt
  replace bi2k := blk2 bi2
  replace i3 := i3_83.below hb8
  replace bi3 := bi3_84.below hb8 bi3_84.lt
  replace bi3k := blk2 bi3
  replace i4 := i4_85.below hb8
  replace bi4 := bi4_86.below hb8 bi4_86.lt
  replace bi4k := blk2 bi4
  replace i5 := i5_87.below hb8
  replace bi5 := bi5.below hb8 bi5.lt
  replace bi5k := blk2 bi5
  clear hB_71 xk_72 x_72 zk_73 z_73 rk_74 r_74 yk_75 y_75 vk_76 v_76 i0_77 bi0k_78 bi0_78 i1_79 bi1k_80 bi1_80 i2_81 bi2k_82 bi2_82 i3_83 bi3k_84 bi3_84 i4_85 bi4k_86 bi4_86 i5_87
  go_wp2_with fail
  go_at_call 17
  refine ((hs2 _ p2 q2 p3 q3 i2 i3)).mono ?_
  rintro e w9 ⟨rfl, hb9⟩
  replace hB := bt hB hb9
  replace x := x.below hb9 x.lt
  replace xk := blk5 x
  replace z := z.below hb9 z.lt
  replace zk := blk2 z
  replace r := r.below hb9 r.lt
  replace rk := blk2 r
  replace y := y.below hb9 y.lt
  replace yk := blk3 y
  replace v := v.below hb9 v.lt
  replace vk := Tryz.dm_all m h64 v
  replace i0 := i0.below hb9
  replace bi0 := bi0.below hb9 bi0.lt
  replace bi0k := blk2 bi0
  replace i1 := i1.below hb9
  replace bi1 := bi1.below hb9 bi1.lt
  replace bi1k := blk2 bi1
  replace i2 := i2.below hb9
  replace bi2 := bi2.below hb9 bi2.lt
  replace bi2k := blk2 bi2
  replace i3 := i3.below hb9
  replace bi3 := bi3.below hb9 bi3.lt
  replace bi3k := blk2 bi3
  replace i4 := i4.below hb9
  replace bi4 := bi4.below hb9 bi4.lt
  replace bi4k := blk2 bi4
  replace i5 := i5.below hb9
  replace bi5 := bi5.below hb9 bi5.lt
  replace bi5k := blk2 bi5
  go_wp2_with fail
  go_at_call 17
  refine ((hs3 _ p4 q4 p5 q5 i4 i5)).mono ?_
  rintro e w10 ⟨rfl, hb10⟩
  replace hB := bt hB hb10
  replace x := x.below hb10 x.lt
  replace xk := blk5 x
  replace z := z.below hb10 z.lt
  replace zk := blk2 z
  replace r := r.below hb10 r.lt
  replace rk := blk2 r
  replace y := y.below hb10 y.lt
  replace yk := blk3 y
  replace v := v.below hb10 v.lt
  replace vk := Tryz.dm_all m h64 v
  replace i0 := i0.below hb10
  replace bi0 := bi0.below hb10 bi0.lt
  replace bi0k := blk2 bi0
  replace i1 := i1.below hb10
  replace bi1 := bi1.below hb10 bi1.lt
  replace bi1k := blk2 bi1
  replace i2 := i2.below hb10
  replace bi2 := bi2.below hb10 bi2.lt
  replace bi2k := blk2 bi2
  replace i3 := i3.below hb10
  replace bi3 := bi3.below hb10 bi3.lt
  replace bi3k := blk2 bi3
  replace i4 := i4.below hb10
  replace bi4 := bi4.below hb10 bi4.lt
  replace bi4k := blk2 bi4
  replace i5 := i5.below hb10
  replace bi5 := bi5.below hb10 bi5.lt
  replace bi5k := blk2 bi5
  go_wp2_with fail
  go_at_call 10
  refine ((awake10 _)).mono ?_
  rintro e w11 ⟨rfl, hb11⟩
  replace hB := bt hB hb11
  replace x := x.below hb11 x.lt
  replace xk := blk5 x
  replace z := z.below hb11 z.lt
  replace zk := blk2 z
  replace r := r.below hb11 r.lt
  replace rk := blk2 r
  replace y := y.below hb11 y.lt
  replace yk := blk3 y
  replace v := v.below hb11 v.lt
  replace vk := Tryz.dm_all m h64 v
  replace i0 := i0.below hb11
  replace bi0 := bi0.below hb11 bi0.lt
  replace bi0k := blk2 bi0
  replace i1 := i1.below hb11
  replace bi1 := bi1.below hb11 bi1.lt
  replace bi1k := blk2 bi1
  replace i2 := i2.below hb11
  replace bi2 := bi2.below hb11 bi2.lt
  replace bi2k := blk2 bi2
  replace i3 := i3.below hb11
  replace bi3 := bi3.below hb11 bi3.lt
  replace bi3k := blk2 bi3
  replace i4 := i4.below hb11
  replace bi4 := bi4.below hb11 bi4.lt
  replace bi4k := blk2 bi4
  replace i5 := i5.below hb11
  replace bi5 := bi5.below hb11 bi5.lt
  replace bi5k := blk2 bi5
  go_wp2_with fail
  go_ret
  exact ⟨rfl, hB⟩
theorem walk (w : World) (D : Dk) (p q : Pl) (hD : IsDk0 w D p q ∧ D.cache.length * Tryz.prog.bytesOf 140 ≤ reachBytes ∧ D.bad.length * Tryz.prog.bytesOf 3 ≤ reachBytes) (L : Pn) (p' q' : Pl) (hL : IsPn w L p' q') (l : Int) (n : Nat) (_wl : okInt l) (hn : n < 4294967296) (i : Int) (wi : (Lit.int .i64 i).wf = true) (s : Sn) (hid9 : s.id < 4294967296) (hl1 : okInt s.l1) (hsn : s.name.length ≤ maxLen) (m : Dm) (hmn : m.name.length ≤ maxLen) (h64 : m.bits.length = 64) :
    Calls Tryz.prog 3 #[dval D p q, pval L p' q', .agg #[.int .i64 l, .int .u32 n], .int .i64 i, snval s, dmval m] w fun e w' => e = .returned (.bool true) ∧ Below w.heap.size w w' := by
  obtain ⟨hD, c1, b1⟩ := hD
  rw [show Tryz.prog.bytesOf 3 = 8 by kernel_rfl] at b1
  unfold reachBytes at b1
  have hi64 := okInt_of wi
  cases hg : good D L with
  | false => exact walk_no D L p q p' q' l n i s m w hn hi64 hid9 hl1 hsn h64 hmn hD (by omega) hL hg
  | true => exact walk_ok D L p q p' q' l n i s m w hn hi64 hid9 hl1 hsn h64 hmn hD (by omega) hL hg
/-! ### The row: the listed variables lie in the witness's world as the condition says -/
theorem own : ownKnob Tryz.prog.godebug = none := by kernel_rfl
/-- Utf8's table of first bytes, cell by cell. -/
def firstCells : Array Value := match Go.Pinned.utf8First with | .agg l => (l.map fun | .lit (.int k m) => Value.int k m | _ => undef).toArray | _ => #[]
/-- The heap that the door's own run leaves, with the pinned table laid. -/
noncomputable def laidWorld (os : Os) : World :=
  let w0 := World.doorLaid Tryz.prog 4000 os
  { w0 with heap := w0.heap.modify 1 fun | .cells _ t fr => .cells firstCells t fr | o => o }
set_option maxRecDepth 100000 in
theorem door_met (os : Os) (args : Array Value) : laidMetH Tryz.prog Rows.rootSetsRow.laid ((laidWorld os).forCall (fun _ _ => 0) ⟨#[], args, []⟩).memory :=
  laidMetH_of_parts3 (fuel := 8) (laidMet_of_run' 8 (by kernel_rfl) (by kernel_rfl)) (by kernel_rfl) (by kernel_rfl)
set_option maxRecDepth 100000 in
theorem lifted (os : Os) (started : os.Started) (H : Type) (enc : TypeId × Value → H) :
    ReturnsInHanded {} Tryz.checked os 3 .any (fun w args => (Rows.rootSetsSpec.pre enc Tryz.prog Tryz.f3 [] false w args ∧ laidMetH Tryz.prog Rows.rootSetsRow.laid w) ∧ sizedMet enc Tryz.prog Tryz.f3 (OpenSpec.ofChange Rows.rootSetsSpec) false w args)
      (Rows.rootSetsSpec.post enc Tryz.prog Tryz.f3 false true false false) := by
  refine returnsInHanded_of_change_and (C := Tryz.checked) (X := fun w _ => laidMetH Tryz.prog Rows.rootSetsRow.laid w) (fun _ _ _ hh h => h.of_heap hh) own started (by kernel_rfl) Tryz.func3
    (ChangeSpec.witness_shaped (enc := enc) (C := Tryz.checked) (os := os) (X := fun w _ => laidMetH Tryz.prog Rows.rootSetsRow.laid w) false (laidWorld os) #[.agg #[.string ByteArray.empty, .slice none 0 0, .int .i64 0, .bool false, .slice none 0 0], .agg #[.slice none 0 0, .slice none 0 0], .agg #[.int .i64 0, .int .u32 0], .int .i64 0, .agg #[.int .u32 0, .int .i64 0, .string ByteArray.empty], dmval Dm.zero] 8 rfl (World.shaped_of_RefB (by kernel_rfl) (by kernel_rfl)) (by kernel_rfl) (by kernel_rfl) (by kernel_rfl) (door_met os _)) ?_
  intro W base args ds gs before hval0 hW _ hsz0 hL _
  have hval : ∀ (j : Nat) t v, Tryz.f3.params[j]? = some t → args[j]? = some v → Value.okWide Tryz.prog W .any base t v := hval0
  have hW' := hW
  obtain ⟨p, q, hA0, hV, rfl, hfz, hnd⟩ := hW
  have hA : DataW.TrodAll enc Tryz.prog W 0 (fun _ => true) true Tryz.f3.params.toList args.toList ds p := hA0
  have hAk := hA
  have hsz : (DataW.weightsEach Tryz.prog (Tryz.f3.params.toList ++ Rows.rootSetsSpec.plain.varTypes Tryz.prog) (ds ++ gs)).all (· ≤ reachBytes) = true := hsz0
  rw [Tryz.params3] at hA hval hsz
  obtain ⟨v0, vs0, d0, ds0, p0, q0, hargs, rfl, rfl, h0, r0⟩ := trodAll_cons hA
  obtain ⟨v1, vs1, d1, ds1, p1, q1, rfl, rfl, rfl, h1, r1⟩ := trodAll_cons r0
  obtain ⟨v2, vs2, d2, ds2, p2, q2, rfl, rfl, rfl, h2, r2⟩ := trodAll_cons r1
  obtain ⟨v3, vs3, d3, ds3, p3, q3, rfl, rfl, rfl, h3, r3⟩ := trodAll_cons r2
  obtain ⟨v4, vs4, d4, ds4, p4, q4, rfl, rfl, rfl, h4, r4⟩ := trodAll_cons r3
  obtain ⟨v5, vs5, d5, ds5, p5, q5, rfl, rfl, rfl, h5, r5⟩ := trodAll_cons r4
  obtain ⟨rfl, rfl, rfl⟩ := trodAll_nil r5
  obtain rfl : args = #[v0, v1, v2, v3, v4, v5] := by cases args; simp_all
  obtain ⟨rfl, rfl⟩ := trodVars_none hV
  obtain ⟨D0, P0, Q0, rfl, w0⟩ := open_dk_sized Tryz.underlying25 (by kernel_rfl) (by kernel_rfl) Tryz.underlying9 Tryz.underlying22 Tryz.underlying3 Tryz.underlying4 Tryz.underlying23 Tryz.underlying140 (by kernel_rfl) (by kernel_rfl) Tryz.underlying3 Tryz.underlying9 Tryz.underlying3 (by kernel_rfl) (hval 0 25 v0 rfl rfl) h0 (weights_each hsz (j := 0) rfl rfl)
  obtain ⟨D1, P1, Q1, rfl, w1⟩ := open_plan Tryz.underlying28 (by kernel_rfl) (by kernel_rfl) Tryz.underlying23 Tryz.underlying26 Tryz.underlying3 (by kernel_rfl) Tryz.underlying9 (by kernel_rfl) (hval 1 28 v1 rfl rfl) h1
  obtain ⟨l2, n2, rfl, w2, x2⟩ := open_root Tryz.underlying31 (by kernel_rfl) (by kernel_rfl) Tryz.underlying3 Tryz.underlying29 (hval 2 31 v2 rfl rfl) h2
  obtain ⟨a3, rfl, rfl, rfl, w3⟩ := open_int Tryz.underlying3 (hval 3 3 v3 rfl rfl) h3
  obtain ⟨s4, rfl, w4, x4, y4⟩ := open_snap Tryz.underlying33 ⟨rfl, by kernel_rfl⟩ ⟨rfl, by kernel_rfl⟩ ⟨rfl, by kernel_rfl⟩ (by kernel_rfl) Tryz.underlying29 Tryz.underlying3 Tryz.underlying9 (hval 4 33 v4 rfl rfl) h4
  obtain ⟨m5, rfl, w5, x5⟩ := open_dmap (e := 4) Tryz.underlying36 ⟨rfl, by kernel_rfl⟩ ⟨rfl, by kernel_rfl⟩ ⟨rfl, by kernel_rfl⟩ (by kernel_rfl) Tryz.underlying9 Tryz.underlying4 (by kernel_rfl) Tryz.underlying4 (by kernel_rfl) (hval 5 36 v5 rfl rfl) h5
  clear hA0 hval0
  simp only [List.append_nil] at hW'
  refine (walk W D0 P0 Q0 w0 D1 P1 Q1 w1 l2 n2 w2 x2 a3 w3 s4 w4 x4 y4 m5 w5 x5).mono fun e W' ⟨he, hb⟩ => ?_
  subst he
  exact ⟨_, rfl, post_of_below (pa := _) (pv := []) hW' (fun _ _ _ => (trodAll_cons_mk (shut_bool Tryz.underlying4 _) trodAll_mk0)) (fun sp hsp => trodAll_stays (by kernel_rfl) hb (by kernel_rfl) hAk (fun x hx => hW'.lt x (by simpa using hx)) (fun x hx => hsp x (by simpa using hx))) (fun _ _ => rfl) (by simp) hb (ok_one (by kernel_rfl) rfl (okWide_bool_mk Tryz.underlying4 _))⟩
theorem row_ : Rows.RootSetsSaid :=
  OpenClaim.holds_of_wide 3 Tryz.f3 rfl rfl rfl rfl rfl rfl rfl ⟨rfl, rfl, rfl, rfl, rfl⟩ rfl rfl rfl rfl rfl (by kernel_rfl) Tryz.func3 (by kernel_rfl)
    (of_decide_eq_true (by kernel_rfl)) (by unfold Func.isWrapper; first | (rw [if_pos (by decide +kernel)]; kernel_rfl) | (rw [if_neg (by decide +kernel)]; exact ⟨rfl, rfl⟩))
    (fun os started H enc _ => lifted os started H enc)
/-- The statement: the tied card. -/
theorem proved : Rows.RootSetsCardSaid :=
  Claim7.holds_tied_plain_at .later [] [.data, .pinned] true (true, "6b9e7ce7de9a16d9785a7455bb3b5bc5435f0f7736f535da66369f5655d9ce2b") false
    row_ (fun _ h => by cases h) (by kernel_rfl) (fun _ h => by cases h) rootSets_row_tie rfl ⟨rfl, rfl⟩ (by kernel_rfl) rfl
    (fun f fn hf hfn => by
      obtain rfl : f = 3 := Option.some.inj ((show Tryz.prog.funcNamed "cofferdam/cofferdamlaw10.RootSets" = some 3 by kernel_rfl).symm.trans hf) |>.symm
      obtain rfl : fn = Tryz.f3 := (Option.some.inj (Tryz.func3.symm.trans hfn)).symm
      exact ⟨by kernel_rfl, fun j t ht => by
        rw [Tryz.params3] at ht
        have hm : t ∈ [25, 28, 31, 3, 33, 36] := by have := Array.mem_of_getElem? ht; simpa using this
        have hall : ([25, 28, 31, 3, 33, 36].all fun u => !Tryz.prog.wantsStandIn u) = true := by kernel_rfl
        exact (show Tryz.prog.wantsStandIn t = false by simpa using List.all_eq_true.1 hall t hm)⟩)
    (by kernel_rfl)
#print axioms proved
end Go.Proofs.YtjhnaeomaigimaaGreatDoor.rootSets
