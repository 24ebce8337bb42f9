/- RootBack: what is set is what is told, and other places are as they were: any fit device of few writes, any plan, any root, any snapshot, any dirty bitmap. The listed variables of unicode/utf8 start as the program's text lays them (a tied card). -/
import Derived.Test.YtjhnaeomaigimaaGreatDoorLaw10b
import Derived.Test.YtjhnaeomaigimaaGreatDoorOpens
import Derived.Test.YtjhnaeomaigimaaGreatDoorCards
import Derived.Test.YtjhnaeomaigimaaGreatDoorTie
import Derived.ProofKit
import Derived.LaidMore
import Derived.Stop.Joined
import Derived.SevenTiedAt
import Derived.Deep.DeepCutAuto
set_option linter.unusedVariables false
namespace Go.Proofs.YtjhnaeomaigimaaGreatDoor.rootBack
open Go.RowKit Go.Shelf Go.WideShapes Go.ChangeShapes Go.ChangeAt Go.Joins
open Go.ChangeMaps (open_string shut_string)
attribute [local go_sem] bs_mk bs_append bs_extract bs_size bs_toList bs_get

set_option maxRecDepth 100000 in
theorem walk_no (D : Dk) (L : Pn) (p q p' q' : Pl) (l : Int) (n : Nat) (i : Int) (s : Sn) (m : Dm) (w : World) (hn : n < 4294967296) (hi64 : okInt i) (hid9 : s.id < 4294967296) (hl1 : okInt s.l1) (hsn : s.name.length ≤ maxLen) (h64 : m.bits.length = 64) (hmn : m.name.length ≤ maxLen) (h0 : IsDk0 w D p q) (hbl : D.bad.length ≤ 17592186044416) (hL : IsPn w L p' q') (hg : good D L = false) :
    Calls Tryz.prog 6 #[dval D p q, pval L p' q', .agg #[.int .i64 l, .int .u32 n], .int .i64 i, snval s, dmval m] w fun e w' => e = .returned (.bool true) ∧ Below w.heap.size w w' := by
  have hG := fun (W : World) (hb : Below w.heap.size w W) => good10 D L p q p' q' W (h0.below hb) (hL.below hb) hbl
  rw [hg] at hG
  clear h0 hL hg
  obtain ⟨A1, a1⟩ := p
  obtain ⟨A2, a2⟩ := q
  obtain ⟨B1, b1⟩ := p'
  obtain ⟨B2, b2⟩ := q'
  have a36 := Tryz.dm_agg
  have z36 := Tryz.dm_siz
  have hB := Below.refl w.heap.size w
  have x := Blk.new w 25 #[.string (bs D.data), .slice A1 D.cache.length a1, .int .i64 D.fuse, .bool D.off, .slice A2 D.bad.length a2]
  have xk := blk5 x
  have hB_1 := hB.alloc hB.size (.cells #[.string (bs D.data), .slice A1 D.cache.length a1, .int .i64 D.fuse, .bool D.off, .slice A2 D.bad.length a2] 25)
  have z := Blk.new (w.alloc (.cells #[.string (bs D.data), .slice A1 D.cache.length a1, .int .i64 D.fuse, .bool D.off, .slice A2 D.bad.length a2] 25)) 28 #[.slice B1 L.targets.length b1, .slice B2 L.data.length b2]
  simp only [World.size_alloc] at z
  have zk := blk2 z
  have hB_2 := hB_1.alloc hB_1.size (.cells #[.slice B1 L.targets.length b1, .slice B2 L.data.length b2] 28)
  have x_3 := x.alloc (.cells #[.slice B1 L.targets.length b1, .slice B2 L.data.length b2] 28)
  have xk_3 := blk5 x_3
  have r := Blk.new ((w.alloc (.cells #[.string (bs D.data), .slice A1 D.cache.length a1, .int .i64 D.fuse, .bool D.off, .slice A2 D.bad.length a2] 25)).alloc (.cells #[.slice B1 L.targets.length b1, .slice B2 L.data.length b2] 28)) 31 #[.int .i64 l, .int .u32 n]
  simp only [World.size_alloc] at r
  have rk := blk2 r
  have hB_4 := hB_2.alloc hB_2.size (.cells #[.int .i64 l, .int .u32 n] 31)
  have x_5 := x_3.alloc (.cells #[.int .i64 l, .int .u32 n] 31)
  have xk_5 := blk5 x_5
  have z_6 := z.alloc (.cells #[.int .i64 l, .int .u32 n] 31)
  have zk_6 := blk2 z_6
  have y := Blk.new (((w.alloc (.cells #[.string (bs D.data), .slice A1 D.cache.length a1, .int .i64 D.fuse, .bool D.off, .slice A2 D.bad.length a2] 25)).alloc (.cells #[.slice B1 L.targets.length b1, .slice B2 L.data.length b2] 28)).alloc (.cells #[.int .i64 l, .int .u32 n] 31)) 33 #[.int .u32 s.id, .int .i64 s.l1, .string (bs s.name)]
  simp only [World.size_alloc] at y
  have yk := blk3 y
  have hB_7 := hB_4.alloc hB_4.size (.cells #[.int .u32 s.id, .int .i64 s.l1, .string (bs s.name)] 33)
  have x_8 := x_5.alloc (.cells #[.int .u32 s.id, .int .i64 s.l1, .string (bs s.name)] 33)
  have xk_8 := blk5 x_8
  have z_9 := z_6.alloc (.cells #[.int .u32 s.id, .int .i64 s.l1, .string (bs s.name)] 33)
  have zk_9 := blk2 z_9
  have r_10 := r.alloc (.cells #[.int .u32 s.id, .int .i64 s.l1, .string (bs s.name)] 33)
  have rk_10 := blk2 r_10
  have v := Blk.new ((((w.alloc (.cells #[.string (bs D.data), .slice A1 D.cache.length a1, .int .i64 D.fuse, .bool D.off, .slice A2 D.bad.length a2] 25)).alloc (.cells #[.slice B1 L.targets.length b1, .slice B2 L.data.length b2] 28)).alloc (.cells #[.int .i64 l, .int .u32 n] 31)).alloc (.cells #[.int .u32 s.id, .int .i64 s.l1, .string (bs s.name)] 33)) 36 (dmCells m).toArray
  simp only [World.size_alloc] at v
  have vk := Tryz.dm_all m h64 v
  have hB_11 := hB_7.alloc hB_7.size (.cells (dmCells m).toArray 36)
  have x_12 := x_8.alloc (.cells (dmCells m).toArray 36)
  have xk_12 := blk5 x_12
  have z_13 := z_9.alloc (.cells (dmCells m).toArray 36)
  have zk_13 := blk2 z_13
  have r_14 := r_10.alloc (.cells (dmCells m).toArray 36)
  have rk_14 := blk2 r_14
  have y_15 := y.alloc (.cells (dmCells m).toArray 36)
  have yk_15 := blk3 y_15
  go_enter Tryz.func6, Tryz.ntmps6
  go_wp2_with fail
  go_at_call 9
  refine ((hG _ hB_11)).mono ?_
  rintro e w1 ⟨rfl, hb1⟩
  replace hB := bt hB_11 hb1
  replace x := x_12.below hb1 x_12.lt
  replace xk := blk5 x
  replace z := z_13.below hb1 z_13.lt
  replace zk := blk2 z
  replace r := r_14.below hb1 r_14.lt
  replace rk := blk2 r
  replace y := y_15.below hb1 y_15.lt
  replace yk := blk3 y
  replace v := v.below hb1 v.lt
  replace vk := Tryz.dm_all m h64 v
  clear hB_1 hB_2 xk_3 x_3 hB_4 xk_5 x_5 zk_6 z_6 hB_7 xk_8 x_8 zk_9 z_9 rk_10 r_10 hB_11 xk_12 x_12 zk_13 z_13 rk_14 r_14 yk_15 y_15
  go_wp2_with fail
  go_at_call 10
  refine ((awake10 _)).mono ?_
  rintro e w2 ⟨rfl, hb2⟩
  replace hB := bt hB hb2
  replace x := x.below hb2 x.lt
  replace xk := blk5 x
  replace z := z.below hb2 z.lt
  replace zk := blk2 z
  replace r := r.below hb2 r.lt
  replace rk := blk2 r
  replace y := y.below hb2 y.lt
  replace yk := blk3 y
  replace v := v.below hb2 v.lt
  replace vk := Tryz.dm_all m h64 v
  go_wp2_with fail
  go_ret
  exact ⟨rfl, hB⟩

set_option maxRecDepth 100000 in
set_option maxHeartbeats 2000000 in
theorem walk_ok (D : Dk) (L : Pn) (p q p' q' : Pl) (l : Int) (n : Nat) (i : Int) (s : Sn) (m : Dm) (w : World) (hn : n < 4294967296) (hi64 : okInt i) (hid9 : s.id < 4294967296) (hl1 : okInt s.l1) (hsn : s.name.length ≤ maxLen) (h64 : m.bits.length = 64) (hmn : m.name.length ≤ maxLen) (h0 : IsDk0 w D p q) (hbl : D.bad.length ≤ 17592186044416) (hL : IsPn w L p' q') (hg : good D L = true) :
    Calls Tryz.prog 6 #[dval D p q, pval L p' q', .agg #[.int .i64 l, .int .u32 n], .int .i64 i, snval s, dmval m] w fun e w' => e = .returned (.bool true) ∧ Below w.heap.size w w' := by
  obtain ⟨g1, g2, g3, g4⟩ := good_iff.1 hg
  have hD := h0.full (by omega) hbl (by omega)
  have hG := fun (W : World) (hb : Below w.heap.size w W) => good10 D L p q p' q' W (h0.below hb) (hL.below hb) hbl
  rw [hg] at hG
  have hdl := (Dk.fit_parts g3).2.2.1
  have ht6 : L.targets.length ≤ 1000000 := by have := g4.2.1; omega
  have h1 := fun (W : World) (hb : Below w.heap.size w W) => rt_set L p' q' W (hL.below hb) ht6 g4.1 l n hn
  have h2 := fun (W : World) (hb : Below w.heap.size w W) => rt_setSnap D L p q p' q' W (hD.below hb) (hL.below hb) g3 g4 i s hid9 hl1 hsn hi64
  have h3 := fun (W : World) (hb : Below w.heap.size w W) => rt_setMap L p' q' W (hL.below hb) ht6 g4.1 i m h64 hmn hi64
  have h4 := fun (W : World) (hb : Below w.heap.size w W) => rt_snaps D L p q p' q' W (hD.below hb) (hL.below hb) g3 g4
  have h5 := fun (W : World) (hb : Below w.heap.size w W) => rt_maps D L p q p' q' W (hD.below hb) (hL.below hb) g3 g4
  have hX1 := rtSet_fit g4 l n
  have hX2 := snSet_fit g3 g4 i s
  have hX3 := dmSet_fit g4 i m
  have hA := fun (h : (Pn.rtSet L l n).2 = 0) => Pn.rtSet_ok (X := (Pn.rtSet L l n).1) g4 hn (Prod.ext rfl h) D
  have hBk := fun (h : (Pn.snSet D L i s).2 = 0) => snaps_set (X := (Pn.snSet D L i s).1) g3 g4 hid9 (Prod.ext rfl h)
  have hCk := fun (h : (Pn.dmSet L i m).2 = 0) => maps_set (D := D) (X := (Pn.dmSet L i m).1) g4 h64 (Prod.ext rfl h)
  obtain ⟨hlm, hm64, hmnm⟩ := maps_small D L
  generalize Pn.rtSet L l n = S1 at *
  generalize Pn.snSet D L i s = S2 at *
  generalize Pn.dmSet L i m = S3 at *
  generalize Pn.snaps D L = T2 at *
  generalize Pn.maps D L = T3 at *
  obtain ⟨X1, x1⟩ := S1
  obtain ⟨X2, x2⟩ := S2
  obtain ⟨X3, x3⟩ := S3
  obtain ⟨LS, y2⟩ := T2
  obtain ⟨LM, y3⟩ := T3
  simp only at h1 h2 h3 h4 h5 hX1 hX2 hX3 hA hBk hCk hlm hm64 hmnm
  have k1 := fun (W : World) (hb : Below w.heap.size w W) (p1 q1 : Pl) (h : IsPn W X1 p1 q1) => rt_get D X1 p q p1 q1 W (hD.below hb) h g3 hX1
  have k2 := fun (W : World) (hb : Below w.heap.size w W) (p1 q1 : Pl) (h : IsPn W X2 p1 q1) => rt_snaps D X2 p q p1 q1 W (hD.below hb) h g3 hX2
  have k3 := fun (W : World) (hb : Below w.heap.size w W) (p1 q1 : Pl) (h : IsPn W X3 p1 q1) => rt_maps D X3 p q p1 q1 W (hD.below hb) h g3 hX3
  have hna := fun (W : World) => (r3_named [97] (by decide) W).mono (fun e w' h => (⟨h.1, by rw [← h.2]; exact Below.refl _ _⟩ : _ ∧ Below W.heap.size W w'))
  rw [show nameOk [97] = true by decide] at hna
  replace hA := hid hA
  replace hBk := hid hBk
  replace hCk := hid hCk
  have a36 := Tryz.dm_agg
  have z36 := Tryz.dm_siz
  clear h0 hL hg hD g1 g2 g3 g4 hdl hX1 hX2 hX3 ht6
  obtain ⟨A1, a1⟩ := p
  obtain ⟨A2, a2⟩ := q
  obtain ⟨B1, b1⟩ := p'
  obtain ⟨B2, b2⟩ := q'
  have hB := Below.refl w.heap.size w
  have x := Blk.new w 25 #[.string (bs D.data), .slice A1 D.cache.length a1, .int .i64 D.fuse, .bool D.off, .slice A2 D.bad.length a2]
  have xk := blk5 x
  have hB_1 := hB.alloc hB.size (.cells #[.string (bs D.data), .slice A1 D.cache.length a1, .int .i64 D.fuse, .bool D.off, .slice A2 D.bad.length a2] 25)
  have z := Blk.new (w.alloc (.cells #[.string (bs D.data), .slice A1 D.cache.length a1, .int .i64 D.fuse, .bool D.off, .slice A2 D.bad.length a2] 25)) 28 #[.slice B1 L.targets.length b1, .slice B2 L.data.length b2]
  simp only [World.size_alloc] at z
  have zk := blk2 z
  have hB_2 := hB_1.alloc hB_1.size (.cells #[.slice B1 L.targets.length b1, .slice B2 L.data.length b2] 28)
  have x_3 := x.alloc (.cells #[.slice B1 L.targets.length b1, .slice B2 L.data.length b2] 28)
  have xk_3 := blk5 x_3
  have r := Blk.new ((w.alloc (.cells #[.string (bs D.data), .slice A1 D.cache.length a1, .int .i64 D.fuse, .bool D.off, .slice A2 D.bad.length a2] 25)).alloc (.cells #[.slice B1 L.targets.length b1, .slice B2 L.data.length b2] 28)) 31 #[.int .i64 l, .int .u32 n]
  simp only [World.size_alloc] at r
  have rk := blk2 r
  have hB_4 := hB_2.alloc hB_2.size (.cells #[.int .i64 l, .int .u32 n] 31)
  have x_5 := x_3.alloc (.cells #[.int .i64 l, .int .u32 n] 31)
  have xk_5 := blk5 x_5
  have z_6 := z.alloc (.cells #[.int .i64 l, .int .u32 n] 31)
  have zk_6 := blk2 z_6
  have y := Blk.new (((w.alloc (.cells #[.string (bs D.data), .slice A1 D.cache.length a1, .int .i64 D.fuse, .bool D.off, .slice A2 D.bad.length a2] 25)).alloc (.cells #[.slice B1 L.targets.length b1, .slice B2 L.data.length b2] 28)).alloc (.cells #[.int .i64 l, .int .u32 n] 31)) 33 #[.int .u32 s.id, .int .i64 s.l1, .string (bs s.name)]
  simp only [World.size_alloc] at y
  have yk := blk3 y
  have hB_7 := hB_4.alloc hB_4.size (.cells #[.int .u32 s.id, .int .i64 s.l1, .string (bs s.name)] 33)
  have x_8 := x_5.alloc (.cells #[.int .u32 s.id, .int .i64 s.l1, .string (bs s.name)] 33)
  have xk_8 := blk5 x_8
  have z_9 := z_6.alloc (.cells #[.int .u32 s.id, .int .i64 s.l1, .string (bs s.name)] 33)
  have zk_9 := blk2 z_9
  have r_10 := r.alloc (.cells #[.int .u32 s.id, .int .i64 s.l1, .string (bs s.name)] 33)
  have rk_10 := blk2 r_10
  have v := Blk.new ((((w.alloc (.cells #[.string (bs D.data), .slice A1 D.cache.length a1, .int .i64 D.fuse, .bool D.off, .slice A2 D.bad.length a2] 25)).alloc (.cells #[.slice B1 L.targets.length b1, .slice B2 L.data.length b2] 28)).alloc (.cells #[.int .i64 l, .int .u32 n] 31)).alloc (.cells #[.int .u32 s.id, .int .i64 s.l1, .string (bs s.name)] 33)) 36 (dmCells m).toArray
  simp only [World.size_alloc] at v
  have vk := Tryz.dm_all m h64 v
  have hB_11 := hB_7.alloc hB_7.size (.cells (dmCells m).toArray 36)
  have x_12 := x_8.alloc (.cells (dmCells m).toArray 36)
  have xk_12 := blk5 x_12
  have z_13 := z_9.alloc (.cells (dmCells m).toArray 36)
  have zk_13 := blk2 z_13
  have r_14 := r_10.alloc (.cells (dmCells m).toArray 36)
  have rk_14 := blk2 r_14
  have y_15 := y.alloc (.cells (dmCells m).toArray 36)
  have yk_15 := blk3 y_15
  go_enter Tryz.func6, Tryz.ntmps6
  go_wp2_with fail
  go_at_call 9
  refine ((hG _ hB_11)).mono ?_
  rintro e w1 ⟨rfl, hb1⟩
  replace hB := bt hB_11 hb1
  replace x := x_12.below hb1 x_12.lt
  replace xk := blk5 x
  replace z := z_13.below hb1 z_13.lt
  replace zk := blk2 z
  replace r := r_14.below hb1 r_14.lt
  replace rk := blk2 r
  replace y := y_15.below hb1 y_15.lt
  replace yk := blk3 y
  replace v := v.below hb1 v.lt
  replace vk := Tryz.dm_all m h64 v
  clear hB_1 hB_2 xk_3 x_3 hB_4 xk_5 x_5 zk_6 z_6 hB_7 xk_8 x_8 zk_9 z_9 rk_10 r_10 hB_11 xk_12 x_12 zk_13 z_13 rk_14 r_14 yk_15 y_15
  clear xk zk rk yk vk
  have hBw := bt hB (Below.refl _ _)
  have xA := x.below (Below.refl _ _) x.lt
  have zA := z.below (Below.refl _ _) z.lt
  have rA := r.below (Below.refl _ _) r.lt
  have yA := y.below (Below.refl _ _) y.lt
  have vA := v.below (Below.refl _ _) v.lt
  have xq := blk5 xA
  have zq := blk2 zA
  have rq := blk2 rA
  have yq := blk3 yA
  have vq := Tryz.dm_all m h64 vA
  have hV := Below.refl w1.heap.size w1
  go_wp2_with fail
  go_at_call 11
  refine ((h1 _ hBw)).mono ?_
  rintro e w2 ⟨⟨p2, q2, rfl, i2, o2⟩, hb2⟩
  replace hBw := bt hBw hb2
  replace xA := xA.below hb2 xA.lt
  replace xq := blk5 xA
  replace zA := zA.below hb2 zA.lt
  replace zq := blk2 zA
  replace rA := rA.below hb2 rA.lt
  replace rq := blk2 rA
  replace yA := yA.below hb2 yA.lt
  replace yq := blk3 yA
  replace vA := vA.below hb2 vA.lt
  replace vq := Tryz.dm_all m h64 vA
  replace hV := bt hV hb2
  clear o2
  have bi2 := Blk.new w2 28 #[.slice p2.a X1.targets.length p2.c, .slice q2.a X1.data.length q2.c]
  have bi2k := blk2 bi2
  have hBw_1 := hBw.alloc hBw.size (.cells #[.slice p2.a X1.targets.length p2.c, .slice q2.a X1.data.length q2.c] 28)
  have xA_2 := xA.alloc (.cells #[.slice p2.a X1.targets.length p2.c, .slice q2.a X1.data.length q2.c] 28)
  have xq_2 := blk5 xA_2
  have zA_3 := zA.alloc (.cells #[.slice p2.a X1.targets.length p2.c, .slice q2.a X1.data.length q2.c] 28)
  have zq_3 := blk2 zA_3
  have rA_4 := rA.alloc (.cells #[.slice p2.a X1.targets.length p2.c, .slice q2.a X1.data.length q2.c] 28)
  have rq_4 := blk2 rA_4
  have yA_5 := yA.alloc (.cells #[.slice p2.a X1.targets.length p2.c, .slice q2.a X1.data.length q2.c] 28)
  have yq_5 := blk3 yA_5
  have vA_6 := vA.alloc (.cells #[.slice p2.a X1.targets.length p2.c, .slice q2.a X1.data.length q2.c] 28)
  have vq_6 := Tryz.dm_all m h64 vA_6
  have hV_7 := hV.alloc hV.size (.cells #[.slice p2.a X1.targets.length p2.c, .slice q2.a X1.data.length q2.c] 28)
  have i2_8 := i2.below ((Below.refl _ _).alloc (Nat.le_refl _) (.cells #[.slice p2.a X1.targets.length p2.c, .slice q2.a X1.data.length q2.c] 28))
  go_upto_if 41 with fail
  go_cut [] (fun W => Below w1.heap.size w1 W)
  case first =>
    as_aux_lemma =>
    by_cases he : x1 = 0
    · obtain ⟨j1, j2, _, j3⟩ := hA.out he
      obtain ⟨l, rfl⟩ := Int.eq_ofNat_of_zero_le j1
      rw [j3, Int.toNat_natCast] at k1
      subst he
      clear hA hBk hCk j1 j2 j3
      go_wp2_with fail
      go_at_call 24
      refine ((k1 _ hBw_1 p2 q2 i2_8)).mono ?_
      rintro e w3 ⟨rfl, hb3⟩
      replace hBw := bt hBw_1 hb3
      replace xA := xA_2.below hb3 xA_2.lt
      replace xq := blk5 xA
      replace zA := zA_3.below hb3 zA_3.lt
      replace zq := blk2 zA
      replace rA := rA_4.below hb3 rA_4.lt
      replace rq := blk2 rA
      replace yA := yA_5.below hb3 yA_5.lt
      replace yq := blk3 yA
      replace vA := vA_6.below hb3 vA_6.lt
      replace vq := Tryz.dm_all m h64 vA
      replace hV := bt hV_7 hb3
      replace i2 := i2_8.below hb3
      replace bi2 := bi2.below hb3 bi2.lt
      replace bi2k := blk2 bi2
      clear hBw_1 xq_2 xA_2 zq_3 zA_3 rq_4 rA_4 yq_5 yA_5 vq_6 vA_6 hV_7 i2_8
      have u := Blk.new w3 31 #[.int .i64 l, .int .u32 n]
      have uk := blk2 u
      have hBw_9 := hBw.alloc hBw.size (.cells #[.int .i64 l, .int .u32 n] 31)
      have xA_10 := xA.alloc (.cells #[.int .i64 l, .int .u32 n] 31)
      have xq_10 := blk5 xA_10
      have zA_11 := zA.alloc (.cells #[.int .i64 l, .int .u32 n] 31)
      have zq_11 := blk2 zA_11
      have rA_12 := rA.alloc (.cells #[.int .i64 l, .int .u32 n] 31)
      have rq_12 := blk2 rA_12
      have yA_13 := yA.alloc (.cells #[.int .i64 l, .int .u32 n] 31)
      have yq_13 := blk3 yA_13
      have vA_14 := vA.alloc (.cells #[.int .i64 l, .int .u32 n] 31)
      have vq_14 := Tryz.dm_all m h64 vA_14
      have hV_15 := hV.alloc hV.size (.cells #[.int .i64 l, .int .u32 n] 31)
      have i2_16 := i2.below ((Below.refl _ _).alloc (Nat.le_refl _) (.cells #[.int .i64 l, .int .u32 n] 31))
      have bi2_17 := bi2.alloc (.cells #[.int .i64 l, .int .u32 n] 31)
      have bi2k_17 := blk2 bi2_17
      go_wp2_with fail
      go_meet
      exact hV_15
    · have ne1 : (x1 == 0) = false := beq_eq_false_iff_ne.2 he
      clear he hA hBk hCk
      go_wp2_with fail
      go_meet
      exact hV_7
  case rest =>
    have hW2 := hcut
    clear hcut hA xA_2 zA_3 rA_4 yA_5 vA_6 xq_2 zq_3 rq_4 yq_5 vq_6 hBw_1 hV_7 i2_8 bi2 bi2k
    have hBw := bt hB hW2
    have xA := x.below hW2 x.lt
    have zA := z.below hW2 z.lt
    have rA := r.below hW2 r.lt
    have yA := y.below hW2 y.lt
    have vA := v.below hW2 v.lt
    have xq := blk5 xA
    have zq := blk2 zA
    have rq := blk2 rA
    have yq := blk3 yA
    have vq := Tryz.dm_all m h64 vA
    go_wp2_with fail
    go_at_call 25
    refine ((h4 _ hBw)).mono ?_
    rintro e w3 ⟨⟨v3, rfl, own3⟩, hb3⟩
    replace hBw := bt hBw hb3
    replace xA := xA.below hb3 xA.lt
    replace xq := blk5 xA
    replace zA := zA.below hb3 zA.lt
    replace zq := blk2 zA
    replace rA := rA.below hb3 rA.lt
    replace rq := blk2 rA
    replace yA := yA.below hb3 yA.lt
    replace yq := blk3 yA
    replace vA := vA.below hb3 vA.lt
    replace vq := Tryz.dm_all m h64 vA
    obtain ⟨C3, c3, rfl, _⟩ := own_slice own3
    have cc3 := Cells.of_own own3
    have hW3 := bt hW2 hb3
    clear own3 xA zA rA yA vA xq zq rq yq vq hBw
    skip
    have hBw := bt hB hW3
    have xA := x.below hW3 x.lt
    have zA := z.below hW3 z.lt
    have rA := r.below hW3 r.lt
    have yA := y.below hW3 y.lt
    have vA := v.below hW3 v.lt
    have xq := blk5 xA
    have zq := blk2 zA
    have rq := blk2 rA
    have yq := blk3 yA
    have vq := Tryz.dm_all m h64 vA
    have hV := hW3
    go_wp2_with fail
    go_at_call 13
    refine ((h2 _ hBw)).mono ?_
    rintro e w4 ⟨⟨p4, q4, rfl, i4, o4⟩, hb4⟩
    replace hBw := bt hBw hb4
    replace xA := xA.below hb4 xA.lt
    replace xq := blk5 xA
    replace zA := zA.below hb4 zA.lt
    replace zq := blk2 zA
    replace rA := rA.below hb4 rA.lt
    replace rq := blk2 rA
    replace yA := yA.below hb4 yA.lt
    replace yq := blk3 yA
    replace vA := vA.below hb4 vA.lt
    replace vq := Tryz.dm_all m h64 vA
    replace hV := bt hV hb4
    replace cc3 := cc3.below hb4
    clear o4
    have bi4 := Blk.new w4 28 #[.slice p4.a X2.targets.length p4.c, .slice q4.a X2.data.length q4.c]
    have bi4k := blk2 bi4
    have hBw_1 := hBw.alloc hBw.size (.cells #[.slice p4.a X2.targets.length p4.c, .slice q4.a X2.data.length q4.c] 28)
    have xA_2 := xA.alloc (.cells #[.slice p4.a X2.targets.length p4.c, .slice q4.a X2.data.length q4.c] 28)
    have xq_2 := blk5 xA_2
    have zA_3 := zA.alloc (.cells #[.slice p4.a X2.targets.length p4.c, .slice q4.a X2.data.length q4.c] 28)
    have zq_3 := blk2 zA_3
    have rA_4 := rA.alloc (.cells #[.slice p4.a X2.targets.length p4.c, .slice q4.a X2.data.length q4.c] 28)
    have rq_4 := blk2 rA_4
    have yA_5 := yA.alloc (.cells #[.slice p4.a X2.targets.length p4.c, .slice q4.a X2.data.length q4.c] 28)
    have yq_5 := blk3 yA_5
    have vA_6 := vA.alloc (.cells #[.slice p4.a X2.targets.length p4.c, .slice q4.a X2.data.length q4.c] 28)
    have vq_6 := Tryz.dm_all m h64 vA_6
    have hV_7 := hV.alloc hV.size (.cells #[.slice p4.a X2.targets.length p4.c, .slice q4.a X2.data.length q4.c] 28)
    have cc3_8 := cc3.below ((Below.refl _ _).alloc (Nat.le_refl _) (.cells #[.slice p4.a X2.targets.length p4.c, .slice q4.a X2.data.length q4.c] 28))
    have i4_9 := i4.below ((Below.refl _ _).alloc (Nat.le_refl _) (.cells #[.slice p4.a X2.targets.length p4.c, .slice q4.a X2.data.length q4.c] 28))
    go_upto_region 10 with fail
    generalize (w4.alloc (.cells #[.slice p4.a X2.targets.length p4.c, .slice q4.a X2.data.length q4.c] 28)) = V4 at hBw_1 xA_2 xq_2 zA_3 zq_3 rA_4 rq_4 yA_5 yq_5 vA_6 vq_6 hV_7 cc3_8 i4_9 bi4 bi4k ⊢
    clear hBw xA zA rA yA vA hV cc3 i4 xq zq rq yq vq
    have hBw := hBw_1
    have xA := xA_2
    have xq := xq_2
    have zA := zA_3
    have zq := zq_3
    have rA := rA_4
    have rq := rq_4
    have yA := yA_5
    have yq := yq_5
    have vA := vA_6
    have vq := vq_6
    have hV := hV_7
    have cc3 := cc3_8
    have i4 := i4_9
    clear hBw_1 xA_2 xq_2 zA_3 zq_3 rA_4 rq_4 yA_5 yq_5 vA_6 vq_6 hV_7 cc3_8 i4_9
    go_cut [74] (fun s9 W => s9 = .bool (decide (x2 = 0 ∧ y2 = 0)) ∧ W = V4)
    case first =>
      by_cases he : x2 = 0
      · have g1 : (x2 == 0) = true := by rw [he]; rfl
        by_cases hy : y2 = 0
        · have g2 : (y2 == 0) = true := by rw [hy]; rfl
          have Hd := hid (show decide (x2 = 0 ∧ y2 = 0) = true from decide_eq_true ⟨he, hy⟩)
          clear he hy
          go_wp2_with fail
          go_meet
          exact ⟨by rw [Hd.out], rfl⟩
        · have g2 : (y2 == 0) = false := beq_eq_false_iff_ne.2 hy
          have Hd := hid (show decide (x2 = 0 ∧ y2 = 0) = false from decide_eq_false fun h => hy h.2)
          clear he hy
          go_wp2_with fail
          go_meet
          exact ⟨by rw [Hd.out], rfl⟩
      · have g1 : (x2 == 0) = false := beq_eq_false_iff_ne.2 he
        have Hd := hid (show decide (x2 = 0 ∧ y2 = 0) = false from decide_eq_false fun h => he h.1)
        clear he
        go_wp2_with fail
        go_meet
        exact ⟨by rw [Hd.out], rfl⟩
    case rest =>
      obtain ⟨hs9, rfl⟩ := hcut
      obtain ⟨bb, hbb⟩ : ∃ b, decide (x2 = 0 ∧ y2 = 0) = b := ⟨_, rfl⟩
      rw [hbb] at hs9
      subst hs9
      replace hbb := hid hbb
      go_upto_if 74 with fail
      go_cut [17] (fun _ W => Below w1.heap.size w1 W)
      case first =>
        as_aux_lemma =>
        cases bb with
        | true =>
          have he := of_decide_eq_true hbb.out
          obtain ⟨j1, j2, j3, j4⟩ := hBk.out he.1 he.2
          obtain ⟨k, rfl⟩ := Int.eq_ofNat_of_zero_le j1
          rw [j4, Int.toNat_natCast] at k2
          obtain ⟨he, hy⟩ := he
          subst he hy
          clear hBk hCk j1 j4 hbb
          go_wp2_with fail
          go_at_call 25
          refine ((k2 _ hBw p4 q4 i4)).mono ?_
          rintro e w5 ⟨⟨v5, rfl, own5⟩, hb5⟩
          replace hBw := bt hBw hb5
          replace xA := xA.below hb5 xA.lt
          replace xq := blk5 xA
          replace zA := zA.below hb5 zA.lt
          replace zq := blk2 zA
          replace rA := rA.below hb5 rA.lt
          replace rq := blk2 rA
          replace yA := yA.below hb5 yA.lt
          replace yq := blk3 yA
          replace vA := vA.below hb5 vA.lt
          replace vq := Tryz.dm_all m h64 vA
          replace hV := bt hV hb5
          replace cc3 := cc3.below hb5
          replace i4 := i4.below hb5
          replace bi4 := bi4.below hb5 bi4.lt
          replace bi4k := blk2 bi4
          obtain ⟨C5, c5, rfl, _⟩ := own_slice own5
          have cc5 := Cells.of_own own5
          have hl8 : (LS.set k s).length = 8 := by rw [List.length_set]; exact j3
          obtain ⟨b3, f3, rfl, H3⟩ := (cc3).sn (i := 0) (by omega)
          obtain ⟨b5, f5, rfl, H5⟩ := cc5.sn (i := 0) (by omega)
          have HN := hid (fun (W : World) (h : Below w5.heap.size w5 W) (j : Nat) (hj : j < 8) => And.intro (cell_below h (H5 j (by omega)).1) (And.intro (cell_below h (H5 j (by omega)).2.1) (cell_below h (H5 j (by omega)).2.2)))
          have HL := hid (fun (W : World) (h : Below w5.heap.size w5 W) (j : Nat) (hj : j < 8) => And.intro (cell_below h (H3 j (by omega)).1) (And.intro (cell_below h (H3 j (by omega)).2.1) (cell_below h (H3 j (by omega)).2.2)))
          have d0 : decide ((k : Int) < 0) = false := decide_eq_false (by omega)
          have d1 : decide ((8 : Int) ≤ (k : Int)) = false := decide_eq_false (by omega)
          have d2 : decide (8 ≤ k) = false := decide_eq_false (by omega)
          clear H3 H5 own5 cc5
          have hV5 := hV
          have y5 := yA
          go_wp2_with fail
          go_loopw [103] (fun x W => ∃ j : Nat, j ≤ 8 ∧ x = .int .i64 j ∧ Below w5.heap.size w5 W) (fun x _ => 8 - (intOf x).toNat)
          case atStart => exact ⟨0, Nat.zero_le _, rfl, Below.refl _ _⟩
          case round =>
            obtain ⟨j, hj, rfl, hb⟩ := hrel
            by_cases hlt : j < 8
            · have n0 := HN.out _ hb j hlt
              have l0 := HL.out _ hb j hlt
              have y0 := y5.below hb y5.lt
              have yk := blk3 y0
              clear HN HL xA zA rA yA vA xq zq rq yq vq
              by_cases hjk : j = k
              · have e0 : ((j : Int) == (k : Int)) = true := by rw [hjk]; exact beq_self_eq_true _
                have e1 : ((j : Int) != (k : Int)) = false := by rw [hjk]; exact bne_self_eq_false _
                simp only [hjk, List.getElem_set_self] at n0
                rw [← hjk] at n0
                clear l0 hjk
                go_wp2_with fail
                go_quiet (fail)
                go_wp2_with fail
                go_roundw
                case rel => exact ⟨j + 1, by omega, by go_num, below_drewN hb _⟩
                case measure => simp [intOf]; omega
              · have e0 : ((j : Int) == (k : Int)) = false := by rw [beq_eq_false_iff_ne]; omega
                have e1 : ((j : Int) != (k : Int)) = true := by rw [bne_iff_ne]; omega
                simp only [List.getElem_set_ne (Ne.symm hjk)] at n0
                generalize LS[j]'(by omega) = e at n0 l0
                clear hjk
                go_wp2_with fail
                go_quiet (fail)
                go_wp2_with fail
                go_roundw
                case rel => exact ⟨j + 1, by omega, by go_num, below_drewN hb _⟩
                case measure => simp [intOf]; omega
            · obtain rfl : j = 8 := by omega
              clear HN HL
              go_wp2_with fail
              go_meet
              exact bt hV5 hb
        | false =>
          clear hBk hCk hbb
          go_wp2_with fail
          go_meet
          exact hV
      case rest =>
        have hW6 := hcut
        clear hcut hBk xA zA rA yA vA xq zq rq yq vq hBw hV i4 bi4 bi4k cc3 hbb
        have hBw := bt hB hW6
        have xA := x.below hW6 x.lt
        have zA := z.below hW6 z.lt
        have rA := r.below hW6 r.lt
        have yA := y.below hW6 y.lt
        have vA := v.below hW6 v.lt
        have xq := blk5 xA
        have zq := blk2 zA
        have rq := blk2 rA
        have yq := blk3 yA
        have vq := Tryz.dm_all m h64 vA
        go_wp2_with fail
        go_at_call 26
        refine ((h5 _ hBw)).mono ?_
        rintro e w6 ⟨⟨v6, rfl, own6⟩, hb6⟩
        replace hBw := bt hBw hb6
        replace xA := xA.below hb6 xA.lt
        replace xq := blk5 xA
        replace zA := zA.below hb6 zA.lt
        replace zq := blk2 zA
        replace rA := rA.below hb6 rA.lt
        replace rq := blk2 rA
        replace yA := yA.below hb6 yA.lt
        replace yq := blk3 yA
        replace vA := vA.below hb6 vA.lt
        replace vq := Tryz.dm_all m h64 vA
        obtain ⟨C6, c6, rfl, _⟩ := own_slice own6
        have cc6 := Cells.of_own own6
        have hW7 := bt hW6 hb6
        clear own6 xA zA rA yA vA xq zq rq yq vq hBw
        skip
        have hBw := bt hB hW7
        have xA := x.below hW7 x.lt
        have zA := z.below hW7 z.lt
        have rA := r.below hW7 r.lt
        have yA := y.below hW7 y.lt
        have vA := v.below hW7 v.lt
        have xq := blk5 xA
        have zq := blk2 zA
        have rq := blk2 rA
        have yq := blk3 yA
        have vq := Tryz.dm_all m h64 vA
        have hV := hW7
        go_wp2_with fail
        go_at_call 15
        refine ((h3 _ hBw)).mono ?_
        rintro e w7 ⟨⟨p7, q7, rfl, i7, o7⟩, hb7⟩
        replace hBw := bt hBw hb7
        replace xA := xA.below hb7 xA.lt
        replace xq := blk5 xA
        replace zA := zA.below hb7 zA.lt
        replace zq := blk2 zA
        replace rA := rA.below hb7 rA.lt
        replace rq := blk2 rA
        replace yA := yA.below hb7 yA.lt
        replace yq := blk3 yA
        replace vA := vA.below hb7 vA.lt
        replace vq := Tryz.dm_all m h64 vA
        replace hV := bt hV hb7
        replace cc6 := cc6.below hb7
        clear o7
        have bi7 := Blk.new w7 28 #[.slice p7.a X3.targets.length p7.c, .slice q7.a X3.data.length q7.c]
        have bi7k := blk2 bi7
        have hBw_1 := hBw.alloc hBw.size (.cells #[.slice p7.a X3.targets.length p7.c, .slice q7.a X3.data.length q7.c] 28)
        have xA_2 := xA.alloc (.cells #[.slice p7.a X3.targets.length p7.c, .slice q7.a X3.data.length q7.c] 28)
        have xq_2 := blk5 xA_2
        have zA_3 := zA.alloc (.cells #[.slice p7.a X3.targets.length p7.c, .slice q7.a X3.data.length q7.c] 28)
        have zq_3 := blk2 zA_3
        have rA_4 := rA.alloc (.cells #[.slice p7.a X3.targets.length p7.c, .slice q7.a X3.data.length q7.c] 28)
        have rq_4 := blk2 rA_4
        have yA_5 := yA.alloc (.cells #[.slice p7.a X3.targets.length p7.c, .slice q7.a X3.data.length q7.c] 28)
        have yq_5 := blk3 yA_5
        have vA_6 := vA.alloc (.cells #[.slice p7.a X3.targets.length p7.c, .slice q7.a X3.data.length q7.c] 28)
        have vq_6 := Tryz.dm_all m h64 vA_6
        have hV_7 := hV.alloc hV.size (.cells #[.slice p7.a X3.targets.length p7.c, .slice q7.a X3.data.length q7.c] 28)
        have cc6_8 := cc6.below ((Below.refl _ _).alloc (Nat.le_refl _) (.cells #[.slice p7.a X3.targets.length p7.c, .slice q7.a X3.data.length q7.c] 28))
        have i7_9 := i7.below ((Below.refl _ _).alloc (Nat.le_refl _) (.cells #[.slice p7.a X3.targets.length p7.c, .slice q7.a X3.data.length q7.c] 28))
        go_upto_region 22 with fail
        generalize (w7.alloc (.cells #[.slice p7.a X3.targets.length p7.c, .slice q7.a X3.data.length q7.c] 28)) = V7 at hBw_1 xA_2 xq_2 zA_3 zq_3 rA_4 rq_4 yA_5 yq_5 vA_6 vq_6 hV_7 cc6_8 i7_9 bi7 bi7k ⊢
        clear hBw xA zA rA yA vA hV cc6 i7 xq zq rq yq vq
        have hBw := hBw_1
        have xA := xA_2
        have xq := xq_2
        have zA := zA_3
        have zq := zq_3
        have rA := rA_4
        have rq := rq_4
        have yA := yA_5
        have yq := yq_5
        have vA := vA_6
        have vq := vq_6
        have hV := hV_7
        have cc6 := cc6_8
        have i7 := i7_9
        clear hBw_1 xA_2 xq_2 zA_3 zq_3 rA_4 rq_4 yA_5 yq_5 vA_6 vq_6 hV_7 cc6_8 i7_9
        go_cut [152] (fun s9 W => s9 = .bool (decide (x3 = 0 ∧ y3 = 0)) ∧ W = V7)
        case first =>
          by_cases he : x3 = 0
          · have g1 : (x3 == 0) = true := by rw [he]; rfl
            by_cases hy : y3 = 0
            · have g2 : (y3 == 0) = true := by rw [hy]; rfl
              have Hd := hid (show decide (x3 = 0 ∧ y3 = 0) = true from decide_eq_true ⟨he, hy⟩)
              clear he hy
              go_wp2_with fail
              go_meet
              exact ⟨by rw [Hd.out], rfl⟩
            · have g2 : (y3 == 0) = false := beq_eq_false_iff_ne.2 hy
              have Hd := hid (show decide (x3 = 0 ∧ y3 = 0) = false from decide_eq_false fun h => hy h.2)
              clear he hy
              go_wp2_with fail
              go_meet
              exact ⟨by rw [Hd.out], rfl⟩
          · have g1 : (x3 == 0) = false := beq_eq_false_iff_ne.2 he
            have Hd := hid (show decide (x3 = 0 ∧ y3 = 0) = false from decide_eq_false fun h => he h.1)
            clear he
            go_wp2_with fail
            go_meet
            exact ⟨by rw [Hd.out], rfl⟩
        case rest =>
          obtain ⟨hs9, rfl⟩ := hcut
          obtain ⟨bb, hbb⟩ : ∃ b, decide (x3 = 0 ∧ y3 = 0) = b := ⟨_, rfl⟩
          rw [hbb] at hs9
          subst hs9
          replace hbb := hid hbb
          go_upto_if 152 with fail
          go_cut [24] (fun _ W => Below w1.heap.size w1 W)
          case first =>
            as_aux_lemma =>
            cases bb with
            | true =>
              have he := of_decide_eq_true hbb.out
              obtain ⟨j1, j2, j3, j4⟩ := hCk.out he.1 he.2
              obtain ⟨k, rfl⟩ := Int.eq_ofNat_of_zero_le j1
              rw [j4, Int.toNat_natCast] at k3
              obtain ⟨he, hy⟩ := he
              subst he hy
              clear hCk j1 j4 hbb
              go_wp2_with fail
              go_at_call 26
              refine ((k3 _ hBw p7 q7 i7)).mono ?_
              rintro e w8 ⟨⟨v8, rfl, own8⟩, hb8⟩
              replace hBw := bt hBw hb8
              replace xA := xA.below hb8 xA.lt
              replace xq := blk5 xA
              replace zA := zA.below hb8 zA.lt
              replace zq := blk2 zA
              replace rA := rA.below hb8 rA.lt
              replace rq := blk2 rA
              replace yA := yA.below hb8 yA.lt
              replace yq := blk3 yA
              replace vA := vA.below hb8 vA.lt
              replace vq := Tryz.dm_all m h64 vA
              replace hV := bt hV hb8
              replace cc6 := cc6.below hb8
              replace i7 := i7.below hb8
              replace bi7 := bi7.below hb8 bi7.lt
              replace bi7k := blk2 bi7
              obtain ⟨C8, c8, rfl, _⟩ := own_slice own8
              have cc8 := Cells.of_own own8
              have hl2 : (LM.set k m).length = 2 := by rw [List.length_set]; exact j3
              have hk2 : k < 2 := by omega
              obtain ⟨k', hk'⟩ : ∃ k', 1 - k = k' := ⟨_, rfl⟩
              have hkk : k ≠ k' := by omega
              have hk2' : k' < 2 := by omega
              have e1 : (1 : Int) - (k : Int) = (k' : Int) := by omega
              have hs64 : ∀ o ∈ LM.set k m, o.bits.length = 64 := fun o ho => by
                rcases List.mem_or_eq_of_mem_set ho with h | rfl
                · exact hm64 o h
                · exact h64
              obtain ⟨b6, f6, rfl, _, H6⟩ := (cc6).dm hm64 (i := 0) (by omega)
              obtain ⟨b8, f8, rfl, _, H8⟩ := cc8.dm hs64 (i := 0) (by omega)
              have n0 := H8 k (by omega)
              have n1 := H8 k' (by omega)
              have l1 := H6 k' (by omega)
              simp only [List.getElem_set_self] at n0
              simp only [List.getElem_set_ne hkk] at n1
              have hO := hm64 _ (List.getElem_mem (show k' < LM.length by omega))
              have hOn := hmnm _ (List.getElem_mem (show k' < LM.length by omega))
              generalize LM[k']'(by omega) = O at n1 l1 hO hOn
              have N0 := fun (n : Nat) => Tryz.dm_load m h64 (rangeAt_below n0 (drewN_below w8 n))
              have N1 := fun (n : Nat) => Tryz.dm_load O hO (rangeAt_below n1 (drewN_below w8 n))
              have L1 := fun (n : Nat) => Tryz.dm_load O hO (rangeAt_below l1 (drewN_below w8 n))
              have y0 := fun (n : Nat) => Tryz.dm_load m h64 (rangeAt_below (vA).range (drewN_below w8 n))
              have d0 : decide ((k : Int) < 0) = false := decide_eq_false (by omega)
              have d1 : decide ((2 : Int) ≤ (k : Int)) = false := decide_eq_false (by omega)
              have d2 : decide (2 ≤ k) = false := decide_eq_false (by omega)
              have hV8 := hV
              clear H6 H8 own8 cc8 n0 n1 l1 hs64 hk' hkk hm64 hmnm hlm cc6 xA zA rA yA vA xq zq rq yq vq hV hBw
              go_wp2_with fail
              refine wp_region_quiet_lit (by kernel_rfl) (by kernel_rfl) ?_
              repeat (go_big_quiet_step (fail))
              go_big_quiet_want
              refine quiet_run (.bool false) (fun W => Tryz.run_dmn _ _ _ rfl m m rfl rfl hmn h64 hmn h64 true (decide_eq_true rfl) W) ?_
              simp only [Act.put, List.setIfInBounds_toArray, List.set_cons_zero, List.set_cons_succ]
              go_big_quiet_on
              repeat (go_big_quiet_step (fail))
              go_big_quiet_want
              refine quiet_run (.bool false) (fun W => Tryz.run_dmn _ _ _ rfl O O rfl rfl hOn hO hOn hO true (decide_eq_true rfl) W) ?_
              simp only [Act.put, List.setIfInBounds_toArray, List.set_cons_zero, List.set_cons_succ]
              go_big_quiet_on
              repeat (go_big_quiet_step (fail))
              refine wpQuiet_nil ?_
              intro _ hw'
              obtain ⟨nq, hw''⟩ := hw'
              subst hw''
              go_wp2_with fail
              go_meet
              exact below_drewN hV8 _
            | false =>
              clear hCk hbb
              go_wp2_with fail
              go_meet
              exact hV
          case rest =>
            have hW9 := bt hB hcut
            clear hcut xA zA rA yA vA xq zq rq yq vq hBw hV i7 bi7 bi7k cc6 hbb
            go_wp2_with fail
            go_at_call 27
            refine ((hna _)).mono ?_
            rintro e w9 ⟨rfl, hb9⟩
            replace hW9 := bt hW9 hb9
            go_wp2_with fail
            go_at_call 10
            refine ((awake10 _)).mono ?_
            rintro e w10 ⟨rfl, hb10⟩
            replace hW9 := bt hW9 hb10
            go_wp2_with fail
            go_ret
            exact ⟨rfl, hW9⟩
theorem walk (w : World) (D : Dk) (p q : Pl) (hD : IsDk0 w D p q ∧ D.cache.length * Tryz.prog.bytesOf 140 ≤ reachBytes ∧ D.bad.length * Tryz.prog.bytesOf 3 ≤ reachBytes) (L : Pn) (p' q' : Pl) (hL : IsPn w L p' q') (l : Int) (n : Nat) (_wl : okInt l) (hn : n < 4294967296) (i : Int) (wi : (Lit.int .i64 i).wf = true) (s : Sn) (hid9 : s.id < 4294967296) (hl1 : okInt s.l1) (hsn : s.name.length ≤ maxLen) (m : Dm) (hmn : m.name.length ≤ maxLen) (h64 : m.bits.length = 64) :
    Calls Tryz.prog 6 #[dval D p q, pval L p' q', .agg #[.int .i64 l, .int .u32 n], .int .i64 i, snval s, dmval m] w fun e w' => e = .returned (.bool true) ∧ Below w.heap.size w w' := by
  obtain ⟨hD, c1, b1⟩ := hD
  rw [show Tryz.prog.bytesOf 3 = 8 by kernel_rfl] at b1
  unfold reachBytes at b1
  have hi64 := okInt_of wi
  cases hg : good D L with
  | false => exact walk_no D L p q p' q' l n i s m w hn hi64 hid9 hl1 hsn h64 hmn hD (by omega) hL hg
  | true => exact walk_ok D L p q p' q' l n i s m w hn hi64 hid9 hl1 hsn h64 hmn hD (by omega) hL hg
/-! ### The row: the listed variables lie in the witness's world as the condition says -/
theorem own : ownKnob Tryz.prog.godebug = none := by kernel_rfl
/-- Utf8's table of first bytes, cell by cell. -/
def firstCells : Array Value := match Go.Pinned.utf8First with | .agg l => (l.map fun | .lit (.int k m) => Value.int k m | _ => undef).toArray | _ => #[]
/-- The heap that the door's own run leaves, with the pinned table laid. -/
noncomputable def laidWorld (os : Os) : World :=
  let w0 := World.doorLaid Tryz.prog 4000 os
  { w0 with heap := w0.heap.modify 1 fun | .cells _ t fr => .cells firstCells t fr | o => o }
set_option maxRecDepth 100000 in
theorem door_met (os : Os) (args : Array Value) : laidMetH Tryz.prog Rows.rootBackRow.laid ((laidWorld os).forCall (fun _ _ => 0) ⟨#[], args, []⟩).memory :=
  laidMetH_of_parts3 (fuel := 8) (laidMet_of_run' 8 (by kernel_rfl) (by kernel_rfl)) (by kernel_rfl) (by kernel_rfl)
set_option maxRecDepth 100000 in
theorem lifted (os : Os) (started : os.Started) (H : Type) (enc : TypeId × Value → H) :
    ReturnsInHanded {} Tryz.checked os 6 .any (fun w args => (Rows.rootBackSpec.pre enc Tryz.prog Tryz.f6 [] false w args ∧ laidMetH Tryz.prog Rows.rootBackRow.laid w) ∧ sizedMet enc Tryz.prog Tryz.f6 (OpenSpec.ofChange Rows.rootBackSpec) false w args)
      (Rows.rootBackSpec.post enc Tryz.prog Tryz.f6 false true false false) := by
  refine returnsInHanded_of_change_and (C := Tryz.checked) (X := fun w _ => laidMetH Tryz.prog Rows.rootBackRow.laid w) (fun _ _ _ hh h => h.of_heap hh) own started (by kernel_rfl) Tryz.func6
    (ChangeSpec.witness_shaped (enc := enc) (C := Tryz.checked) (os := os) (X := fun w _ => laidMetH Tryz.prog Rows.rootBackRow.laid w) false (laidWorld os) #[.agg #[.string ByteArray.empty, .slice none 0 0, .int .i64 0, .bool false, .slice none 0 0], .agg #[.slice none 0 0, .slice none 0 0], .agg #[.int .i64 0, .int .u32 0], .int .i64 0, .agg #[.int .u32 0, .int .i64 0, .string ByteArray.empty], dmval Dm.zero] 8 rfl (World.shaped_of_RefB (by kernel_rfl) (by kernel_rfl)) (by kernel_rfl) (by kernel_rfl) (by kernel_rfl) (door_met os _)) ?_
  intro W base args ds gs before hval0 hW _ hsz0 hL _
  have hval : ∀ (j : Nat) t v, Tryz.f6.params[j]? = some t → args[j]? = some v → Value.okWide Tryz.prog W .any base t v := hval0
  have hW' := hW
  obtain ⟨p, q, hA0, hV, rfl, hfz, hnd⟩ := hW
  have hA : DataW.TrodAll enc Tryz.prog W 0 (fun _ => true) true Tryz.f6.params.toList args.toList ds p := hA0
  have hAk := hA
  have hsz : (DataW.weightsEach Tryz.prog (Tryz.f6.params.toList ++ Rows.rootBackSpec.plain.varTypes Tryz.prog) (ds ++ gs)).all (· ≤ reachBytes) = true := hsz0
  rw [Tryz.params6] at hA hval hsz
  obtain ⟨v0, vs0, d0, ds0, p0, q0, hargs, rfl, rfl, h0, r0⟩ := trodAll_cons hA
  obtain ⟨v1, vs1, d1, ds1, p1, q1, rfl, rfl, rfl, h1, r1⟩ := trodAll_cons r0
  obtain ⟨v2, vs2, d2, ds2, p2, q2, rfl, rfl, rfl, h2, r2⟩ := trodAll_cons r1
  obtain ⟨v3, vs3, d3, ds3, p3, q3, rfl, rfl, rfl, h3, r3⟩ := trodAll_cons r2
  obtain ⟨v4, vs4, d4, ds4, p4, q4, rfl, rfl, rfl, h4, r4⟩ := trodAll_cons r3
  obtain ⟨v5, vs5, d5, ds5, p5, q5, rfl, rfl, rfl, h5, r5⟩ := trodAll_cons r4
  obtain ⟨rfl, rfl, rfl⟩ := trodAll_nil r5
  obtain rfl : args = #[v0, v1, v2, v3, v4, v5] := by cases args; simp_all
  obtain ⟨rfl, rfl⟩ := trodVars_none hV
  obtain ⟨D0, P0, Q0, rfl, w0⟩ := open_dk_sized Tryz.underlying25 (by kernel_rfl) (by kernel_rfl) Tryz.underlying9 Tryz.underlying22 Tryz.underlying3 Tryz.underlying4 Tryz.underlying23 Tryz.underlying140 (by kernel_rfl) (by kernel_rfl) Tryz.underlying3 Tryz.underlying9 Tryz.underlying3 (by kernel_rfl) (hval 0 25 v0 rfl rfl) h0 (weights_each hsz (j := 0) rfl rfl)
  obtain ⟨D1, P1, Q1, rfl, w1⟩ := open_plan Tryz.underlying28 (by kernel_rfl) (by kernel_rfl) Tryz.underlying23 Tryz.underlying26 Tryz.underlying3 (by kernel_rfl) Tryz.underlying9 (by kernel_rfl) (hval 1 28 v1 rfl rfl) h1
  obtain ⟨l2, n2, rfl, w2, x2⟩ := open_root Tryz.underlying31 (by kernel_rfl) (by kernel_rfl) Tryz.underlying3 Tryz.underlying29 (hval 2 31 v2 rfl rfl) h2
  obtain ⟨a3, rfl, rfl, rfl, w3⟩ := open_int Tryz.underlying3 (hval 3 3 v3 rfl rfl) h3
  obtain ⟨s4, rfl, w4, x4, y4⟩ := open_snap Tryz.underlying33 ⟨rfl, by kernel_rfl⟩ ⟨rfl, by kernel_rfl⟩ ⟨rfl, by kernel_rfl⟩ (by kernel_rfl) Tryz.underlying29 Tryz.underlying3 Tryz.underlying9 (hval 4 33 v4 rfl rfl) h4
  obtain ⟨m5, rfl, w5, x5⟩ := open_dmap (e := 4) Tryz.underlying36 ⟨rfl, by kernel_rfl⟩ ⟨rfl, by kernel_rfl⟩ ⟨rfl, by kernel_rfl⟩ (by kernel_rfl) Tryz.underlying9 Tryz.underlying4 (by kernel_rfl) Tryz.underlying4 (by kernel_rfl) (hval 5 36 v5 rfl rfl) h5
  clear hA0 hval0
  simp only [List.append_nil] at hW'
  refine (walk W D0 P0 Q0 w0 D1 P1 Q1 w1 l2 n2 w2 x2 a3 w3 s4 w4 x4 y4 m5 w5 x5).mono fun e W' ⟨he, hb⟩ => ?_
  subst he
  exact ⟨_, rfl, post_of_below (pa := _) (pv := []) hW' (fun _ _ _ => (trodAll_cons_mk (shut_bool Tryz.underlying4 _) trodAll_mk0)) (fun sp hsp => trodAll_stays (by kernel_rfl) hb (by kernel_rfl) hAk (fun x hx => hW'.lt x (by simpa using hx)) (fun x hx => hsp x (by simpa using hx))) (fun _ _ => rfl) (by simp) hb (ok_one (by kernel_rfl) rfl (okWide_bool_mk Tryz.underlying4 _))⟩
theorem row_ : Rows.RootBackSaid :=
  OpenClaim.holds_of_wide 6 Tryz.f6 rfl rfl rfl rfl rfl rfl rfl ⟨rfl, rfl, rfl, rfl, rfl⟩ rfl rfl rfl rfl rfl (by kernel_rfl) Tryz.func6 (by kernel_rfl)
    (of_decide_eq_true (by kernel_rfl)) (by unfold Func.isWrapper; first | (rw [if_pos (by decide +kernel)]; kernel_rfl) | (rw [if_neg (by decide +kernel)]; exact ⟨rfl, rfl⟩))
    (fun os started H enc _ => lifted os started H enc)
/-- The statement: the tied card. -/
theorem proved : Rows.RootBackCardSaid :=
  Claim7.holds_tied_plain_at .later [] [.data, .pinned] true (true, "6b9e7ce7de9a16d9785a7455bb3b5bc5435f0f7736f535da66369f5655d9ce2b") false
    row_ (fun _ h => by cases h) (by kernel_rfl) (fun _ h => by cases h) rootBack_row_tie rfl ⟨rfl, rfl⟩ (by kernel_rfl) rfl
    (fun f fn hf hfn => by
      obtain rfl : f = 6 := Option.some.inj ((show Tryz.prog.funcNamed "cofferdam/cofferdamlaw10.RootBack" = some 6 by kernel_rfl).symm.trans hf) |>.symm
      obtain rfl : fn = Tryz.f6 := (Option.some.inj (Tryz.func6.symm.trans hfn)).symm
      exact ⟨by kernel_rfl, fun j t ht => by
        rw [Tryz.params6] at ht
        have hm : t ∈ [25, 28, 31, 3, 33, 36] := by have := Array.mem_of_getElem? ht; simpa using this
        have hall : ([25, 28, 31, 3, 33, 36].all fun u => !Tryz.prog.wantsStandIn u) = true := by kernel_rfl
        exact (show Tryz.prog.wantsStandIn t = false by simpa using List.all_eq_true.1 hall t hm)⟩)
    (by kernel_rfl)
#print axioms proved
end Go.Proofs.YtjhnaeomaigimaaGreatDoor.rootBack
