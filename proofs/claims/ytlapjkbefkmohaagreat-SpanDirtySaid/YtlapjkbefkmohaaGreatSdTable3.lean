/- Package table and the document's ref11: an entry's bytes; a plan with another entry. -/
import Derived.Test.YtlapjkbefkmohaaGreatSdTable2
import Derived.Test.YtlapjkbefkmohaaGreatSdRefcs
import Derived.Deep.RegionWith
set_option linter.unusedVariables false
namespace Go.Proofs.YtlapjkbefkmohaaGreat
open Go.RowKit Go.Shelf
attribute [local go_sem] bs_mk bs_append bs_extract bs_size bs_toList bs_get
theorem u8w {x : Int} (h : 0 ≤ x ∧ x ≤ 255) : IntKind.u8.wrap x = x := by simp [IntKind.wrap, IntKind.bits, IntKind.signed]; omega
/-- Cells of a device's, a plan's and an entry's boxes, kept. -/
theorem held9t {w W W' : World} {a0 a1 a2 a3 a4 a5 a6 a7 a8 : Addr} {v0 v1 v2 v3 v4 v5 v6 v7 v8 : Value}
 (h : (W.cell? a0 = some v0 ∧ W.cell? a1 = some v1 ∧ W.cell? a2 = some v2 ∧ W.cell? a3 = some v3 ∧ W.cell? a4 = some v4) ∧ (W.cell? a5 = some v5 ∧ W.cell? a6 = some v6) ∧ (W.cell? a7 = some v7 ∧ W.cell? a8 = some v8) ∧ Below w.heap.size w W) (hb : Below W.heap.size W W') :
 (W'.cell? a0 = some v0 ∧ W'.cell? a1 = some v1 ∧ W'.cell? a2 = some v2 ∧ W'.cell? a3 = some v3 ∧ W'.cell? a4 = some v4) ∧ (W'.cell? a5 = some v5 ∧ W'.cell? a6 = some v6) ∧ (W'.cell? a7 = some v7 ∧ W'.cell? a8 = some v8) ∧ Below w.heap.size w W' := by
 obtain ⟨⟨h0, h1, h2, h3, h4⟩, ⟨h5, h6⟩, ⟨h7, h8⟩, hB⟩ := h
 exact ⟨⟨cell_below hb h0, cell_below hb h1, cell_below hb h2, cell_below hb h3, cell_below hb h4⟩, ⟨cell_below hb h5, cell_below hb h6⟩, ⟨cell_below hb h7, cell_below hb h8⟩, bt hB hb⟩
theorem held9ts {w W : World} {b0 b1 b2 o0 o1 o2 o3 o4 o5 o6 o7 o8 : Nat} {v0 v1 v2 v3 v4 v5 v6 v7 v8 : Value}
 (h : (W.cell? ⟨b0, o0, none⟩ = some v0 ∧ W.cell? ⟨b0, o1, none⟩ = some v1 ∧ W.cell? ⟨b0, o2, none⟩ = some v2 ∧ W.cell? ⟨b0, o3, none⟩ = some v3 ∧ W.cell? ⟨b0, o4, none⟩ = some v4) ∧ (W.cell? ⟨b1, o5, none⟩ = some v5 ∧ W.cell? ⟨b1, o6, none⟩ = some v6) ∧ (W.cell? ⟨b2, o7, none⟩ = some v7 ∧ W.cell? ⟨b2, o8, none⟩ = some v8) ∧ Below w.heap.size w W)
 {g : Nat} (g0 : b0 ≠ g) (g1 : b1 ≠ g) (g2 : b2 ≠ g) (hg : w.heap.size ≤ g) (u v : Value) :
 (((W.setCell ⟨g, 0, none⟩ u).setCell ⟨g, 1, none⟩ v).cell? ⟨b0, o0, none⟩ = some v0 ∧ ((W.setCell ⟨g, 0, none⟩ u).setCell ⟨g, 1, none⟩ v).cell? ⟨b0, o1, none⟩ = some v1 ∧ ((W.setCell ⟨g, 0, none⟩ u).setCell ⟨g, 1, none⟩ v).cell? ⟨b0, o2, none⟩ = some v2 ∧ ((W.setCell ⟨g, 0, none⟩ u).setCell ⟨g, 1, none⟩ v).cell? ⟨b0, o3, none⟩ = some v3 ∧ ((W.setCell ⟨g, 0, none⟩ u).setCell ⟨g, 1, none⟩ v).cell? ⟨b0, o4, none⟩ = some v4) ∧
 (((W.setCell ⟨g, 0, none⟩ u).setCell ⟨g, 1, none⟩ v).cell? ⟨b1, o5, none⟩ = some v5 ∧ ((W.setCell ⟨g, 0, none⟩ u).setCell ⟨g, 1, none⟩ v).cell? ⟨b1, o6, none⟩ = some v6) ∧
 (((W.setCell ⟨g, 0, none⟩ u).setCell ⟨g, 1, none⟩ v).cell? ⟨b2, o7, none⟩ = some v7 ∧ ((W.setCell ⟨g, 0, none⟩ u).setCell ⟨g, 1, none⟩ v).cell? ⟨b2, o8, none⟩ = some v8) ∧ Below w.heap.size w ((W.setCell ⟨g, 0, none⟩ u).setCell ⟨g, 1, none⟩ v) := by
 obtain ⟨⟨h0, h1, h2, h3, h4⟩, ⟨h5, h6⟩, ⟨h7, h8⟩, hB⟩ := h
 have k : ∀ (b o : Nat) (x : Value), b ≠ g → W.cell? ⟨b, o, none⟩ = some x → ((W.setCell ⟨g, 0, none⟩ u).setCell ⟨g, 1, none⟩ v).cell? ⟨b, o, none⟩ = some x := fun b o x hb h => by
  rw [World.cell?_setCell_other _ _ _ _ (by intro e; injection e with e; exact hb e.symm), World.cell?_setCell_other _ _ _ _ (by intro e; injection e with e; exact hb e.symm)]; exact h
 exact ⟨⟨k _ _ _ g0 h0, k _ _ _ g0 h1, k _ _ _ g0 h2, k _ _ _ g0 h3, k _ _ _ g0 h4⟩, ⟨k _ _ _ g1 h5, k _ _ _ g1 h6⟩, ⟨k _ _ _ g2 h7, k _ _ _ g2 h8⟩, below_set2 hB hg u v⟩
set_option maxRecDepth 100000 in
set_option maxHeartbeats 1000000 in
theorem t11_bytes (b : UInt8) (a : Nat) (ha : a < 4294967296) (w : World) : Calls Tryz.prog 86 #[eval2 b.toNat a] w fun e w' => e = .returned (.string (bs ([b, 0, 0, 0] ++ be 4 a))) ∧ Below w.heap.size w w' := by
 have hp := fun W => rput_any (a : Int) 4 (by omega) (by omega) W
 rw [show putS (a : Int).toNat 4 = be 4 a from rfl] at hp
 have hu := u8w (x := (b.toNat : Int)) (by have := b.toNat_lt; omega)
 have hcv : ∀ (W : World) (g : Nat), W.cell? ⟨g, 0, none⟩ = some (.int .u8 b.toNat) → W.cell? ⟨g, 1, none⟩ = some (.int .u8 0) → W.cell? ⟨g, 2, none⟩ = some (.int .u8 0) → W.cell? ⟨g, 3, none⟩ = some (.int .u8 0) →
  (convert 77 9 (.slice (some ⟨g, 0, none⟩) 4 4)).run Tryz.prog W = .ok (.string (bs [b, 0, 0, 0])) W := by
  intro W g c0 c1 c2 c3
  exact run_convert_bytes_back (P := Tryz.prog) W 77 9 5 ⟨g, 0, none⟩ 4 [b, 0, 0, 0] Tryz.underlying77 Tryz.underlying5 Tryz.underlying9 (fun i hi => by
   have e : (Addr.add ⟨g, 0, none⟩ i) = ⟨g, i, none⟩ := by simp only [Addr.add]; split <;> simp_all
   rw [e]
   have hi : i < 4 := by simpa using hi
   rcases (show i = 0 ∨ i = 1 ∨ i = 2 ∨ i = 3 by omega) with rfl | rfl | rfl | rfl
   · exact c0
   · exact c1
   · exact c2
   · exact c3)
 generalize hK : [b, 0, 0, 0] = K at hcv ⊢
 have lK : K.length ≤ 4 := by rw [← hK]; simp
 have lA : (be 4 a).length ≤ 4 := by rw [be_length]; omega
 generalize be 4 a = A at hp lA ⊢
 generalize hk : (b.toNat : Int) = k at *
 clear hK hk
 clear b
 have hB := Below.refl w.heap.size w
 have x := Blk.new w 73 #[.int .i64 k, .int .i64 a]
 have xk := blk2 x
 have hB_1 := hB.alloc hB.size (.cells #[.int .i64 k, .int .i64 a] 73)
 go_enter Tryz.func86, Tryz.ntmps86
 go_wp2_with fail
 generalize (w.alloc (.cells #[.int .i64 k, .int .i64 a] 73)) = V at hB_1 x xk ⊢
 clear hB
 have hB := hB_1
 clear hB_1
 have s0 : (V.cell? ⟨w.heap.size, 0, none⟩ = some (.int .i64 k) ∧ V.cell? ⟨w.heap.size, 1, none⟩ = some (.int .i64 a)) ∧ Below w.heap.size w V := ⟨xk, hB⟩
 clear xk
 have bl := fun W => Blk.new W 5 #[.int .u8 k, .int .u8 0, .int .u8 0, .int .u8 0]
 have Hcv := hid (fun (W : World) (g : Nat) (b : Blk W g 5 #[.int .u8 k, .int .u8 0, .int .u8 0, .int .u8 0]) => hcv W g (b.cell 0) (b.cell 1) (b.cell 2) (b.cell 3))
 have Hbl := hid bl
 have hw64 := u64w (x := (a : Int)) (by omega)
 have hc1 := Hcv.out _ _ (bl V).drew
 clear hcv bl
 obtain ⟨xk0, xk1⟩ := s0.1
 have Hx := hid s0.1
 have vl : w.heap.size < V.heap.size := x.lt
 have ne1 : ¬ w.heap.size = V.heap.size := by omega
 have ne2 : ¬ V.heap.size = w.heap.size := by omega
 clear s0
 go_region_with ((go_at_call 74; refine (hp _).mono ?_; rintro e w1 ⟨rfl, hb1⟩; have l1 : V.heap.size ≤ w1.heap.size := (by have := hb1.size; simp at this; omega); have ne3 : ¬ w.heap.size = w1.heap.size := (by omega); have ne4 : ¬ w1.heap.size = w.heap.size := (by omega); first | (have hc2 := Hcv.out w1 V.heap.size ((Hbl.out V).drew.below hb1 (Hbl.out V).drew.lt)) | (have hc2 := Hcv.out _ _ (Hbl.out w1); have xk2 := cell_below hb1 Hx.out.1)))
 all_goals
  go_wp2_with fail
  go_ret
  refine ⟨rfl, ?_⟩
  first
  | exact bt ((hB.alloc hB.size _).drew) hb1
  | exact (bt hB.drew hb1).alloc (bt hB.drew hb1).size _

theorem Pn.entBytes_ref (k a : Nat) (hk : k ≤ 2) (ha : a < 256) : Pn.entBytes k a = [UInt8.ofNat k, 0, 0, 0] ++ be 4 a := by
 have e1 : Pn.entBytes k a = be (1 + 7) (k * 72057594037927936 + a) := rfl
 have e2 : (k * 72057594037927936 + a) / 256 ^ 7 = k := by
  have : (256 : Nat) ^ 7 = 72057594037927936 := by decide
  omega
 have e3 : be 7 (k * 72057594037927936 + a) = be 7 a := by
  rw [be_mod, show (256 : Nat) ^ 7 = 72057594037927936 by decide, Nat.mul_comm, Nat.mul_add_mod, Nat.mod_eq_of_lt (by omega)]
 have e4 : be 7 a = be 3 0 ++ be 4 a := by
  have := be_cat 3 4 a
  rw [show a / 256 ^ 4 = 0 by have : (256 : Nat) ^ 4 = 4294967296 := (by decide); omega] at this
  exact this
 rw [e1, be_cat, e2, e3, e4]
 have : be 1 k = [UInt8.ofNat k] := by simp [be]
 rw [this, show be 3 0 = [0, 0, 0] by decide]
 rfl
theorem t11_set_refused (D : Dk) (L : Pn) (p q p' q' : Pl) (w : World) (hL : IsPn w L p' q') (t i K A : Int) (h : Pn.refused t i) :
 Calls Tryz.prog 72 #[dval D p q, pval L p' q', .int .i64 t, .int .i64 i, eval2 K A] w fun e w' => RetPn w.heap.size L p' q' (Pn.tabSet D L t i K A) e w' ∧ Below w.heap.size w w' := by
 have Hz := hid (fun (W : World) (hb : Below w.heap.size w W) => hL.below hb)
 have Hr := hid (show Pn.tabSet D L t i K A = (L, 10) by rw [Pn.tabSet, if_pos h])

 have hp := fun W => t11_refused t i W
 rw [decide_eq_true h] at hp
 clear hL h
 obtain ⟨A1, a1⟩ := p
 obtain ⟨A2, a2⟩ := q
 obtain ⟨B1, b1⟩ := p'
 obtain ⟨B2, b2⟩ := q'
 have hB := Below.refl w.heap.size w
 have x := Blk.new w 25 #[.string (bs D.data), .slice A1 D.cache.length a1, .int .i64 D.fuse, .bool D.off, .slice A2 D.bad.length a2]
 have xk := blk5 x
 have hB_1 := hB.alloc hB.size (.cells #[.string (bs D.data), .slice A1 D.cache.length a1, .int .i64 D.fuse, .bool D.off, .slice A2 D.bad.length a2] 25)
 have z := Blk.new (w.alloc (.cells #[.string (bs D.data), .slice A1 D.cache.length a1, .int .i64 D.fuse, .bool D.off, .slice A2 D.bad.length a2] 25)) 67 #[.slice B1 L.targets.length b1, .slice B2 L.data.length b2]
 simp only [World.size_alloc] at z
 have zk := blk2 z
 have hB_2 := hB_1.alloc hB_1.size (.cells #[.slice B1 L.targets.length b1, .slice B2 L.data.length b2] 67)
 have x_3 := x.alloc (.cells #[.slice B1 L.targets.length b1, .slice B2 L.data.length b2] 67)
 have xk_3 := blk5 x_3
 have y := Blk.new ((w.alloc (.cells #[.string (bs D.data), .slice A1 D.cache.length a1, .int .i64 D.fuse, .bool D.off, .slice A2 D.bad.length a2] 25)).alloc (.cells #[.slice B1 L.targets.length b1, .slice B2 L.data.length b2] 67)) 73 #[.int .i64 K, .int .i64 A]
 simp only [World.size_alloc] at y
 have yk := blk2 y
 have hB_4 := hB_2.alloc hB_2.size (.cells #[.int .i64 K, .int .i64 A] 73)
 have x_5 := x_3.alloc (.cells #[.int .i64 K, .int .i64 A] 73)
 have xk_5 := blk5 x_5
 have z_6 := z.alloc (.cells #[.int .i64 K, .int .i64 A] 73)
 have zk_6 := blk2 z_6
 have r := Blk.new (((w.alloc (.cells #[.string (bs D.data), .slice A1 D.cache.length a1, .int .i64 D.fuse, .bool D.off, .slice A2 D.bad.length a2] 25)).alloc (.cells #[.slice B1 L.targets.length b1, .slice B2 L.data.length b2] 67)).alloc (.cells #[.int .i64 K, .int .i64 A] 73)) 67 #[.slice none 0 0, .slice none 0 0]
 simp only [World.size_alloc] at r
 have rk := blk2 r
 have rkf := r.frozen
 have hB_7 := hB_4.alloc hB_4.size (.cells #[.slice none 0 0, .slice none 0 0] 67)
 have x_8 := x_5.alloc (.cells #[.slice none 0 0, .slice none 0 0] 67)
 have xk_8 := blk5 x_8
 have z_9 := z_6.alloc (.cells #[.slice none 0 0, .slice none 0 0] 67)
 have zk_9 := blk2 z_9
 have y_10 := y.alloc (.cells #[.slice none 0 0, .slice none 0 0] 67)
 have yk_10 := blk2 y_10
 go_enter Tryz.func72, Tryz.ntmps72
 go_wp2_with fail
 go_at_call 83
 refine ((hp _)).mono ?_
 rintro e w1 ⟨rfl, hb1⟩
 replace hB := bt hB_7 hb1
 replace x := x_8.below hb1 x_8.lt
 replace xk := blk5 x
 replace z := z_9.below hb1 z_9.lt
 replace zk := blk2 z
 replace y := y_10.below hb1 y_10.lt
 replace yk := blk2 y
 replace r := r.below hb1 r.lt
 replace rk := blk2 r
 replace rkf := r.frozen
 clear hB_1 hB_2 xk_3 x_3 hB_4 xk_5 x_5 zk_6 z_6 hB_7 xk_8 x_8 zk_9 z_9 yk_10 y_10

 have w1l := hB.size
 have lt2 := r.lt
 go_wp2_with fail
 rw [Hr.out]
 have yy := blk2 (blk_set2 r (.slice B1 L.targets.length b1) (.slice B2 L.data.length b2))
 have b9 := below_set2 hB (g := w.heap.size + 1 + 1 + 1) (by omega) (.slice B1 L.targets.length b1) (.slice B2 L.data.length b2)
 refine bodyPost_ret (v := .tuple #[pval L ⟨B1, b1⟩ ⟨B2, b2⟩, .int .i64 10]) (by simp [results, Tryz.results72, go_sem, yy]) rfl ?_
 exact ⟨⟨_, _, rfl, Hz.out _ b9, fun _ _ h => h⟩, b9⟩

theorem t11_set_kind (D : Dk) (L : Pn) (p q p' q' : Pl) (w : World) (hL : IsPn w L p' q') (t i K A : Int) (h : ¬ Pn.refused t i) (hk : Pn.entOk K A = false) :
 Calls Tryz.prog 72 #[dval D p q, pval L p' q', .int .i64 t, .int .i64 i, eval2 K A] w fun e w' => RetPn w.heap.size L p' q' (Pn.tabSet D L t i K A) e w' ∧ Below w.heap.size w w' := by
 have Hz := hid (fun (W : World) (hb : Below w.heap.size w W) => hL.below hb)
 have Hr := hid (show Pn.tabSet D L t i K A = (L, 23) by rw [Pn.tabSet, if_neg h, if_pos hk])

 have hp := fun W => t11_refused t i W
 rw [decide_eq_false h] at hp
 have he := fun W => t11_entry K A W
 rw [hk] at he
 clear hL h hk
 obtain ⟨A1, a1⟩ := p
 obtain ⟨A2, a2⟩ := q
 obtain ⟨B1, b1⟩ := p'
 obtain ⟨B2, b2⟩ := q'
 have hB := Below.refl w.heap.size w
 have x := Blk.new w 25 #[.string (bs D.data), .slice A1 D.cache.length a1, .int .i64 D.fuse, .bool D.off, .slice A2 D.bad.length a2]
 have xk := blk5 x
 have hB_1 := hB.alloc hB.size (.cells #[.string (bs D.data), .slice A1 D.cache.length a1, .int .i64 D.fuse, .bool D.off, .slice A2 D.bad.length a2] 25)
 have z := Blk.new (w.alloc (.cells #[.string (bs D.data), .slice A1 D.cache.length a1, .int .i64 D.fuse, .bool D.off, .slice A2 D.bad.length a2] 25)) 67 #[.slice B1 L.targets.length b1, .slice B2 L.data.length b2]
 simp only [World.size_alloc] at z
 have zk := blk2 z
 have hB_2 := hB_1.alloc hB_1.size (.cells #[.slice B1 L.targets.length b1, .slice B2 L.data.length b2] 67)
 have x_3 := x.alloc (.cells #[.slice B1 L.targets.length b1, .slice B2 L.data.length b2] 67)
 have xk_3 := blk5 x_3
 have y := Blk.new ((w.alloc (.cells #[.string (bs D.data), .slice A1 D.cache.length a1, .int .i64 D.fuse, .bool D.off, .slice A2 D.bad.length a2] 25)).alloc (.cells #[.slice B1 L.targets.length b1, .slice B2 L.data.length b2] 67)) 73 #[.int .i64 K, .int .i64 A]
 simp only [World.size_alloc] at y
 have yk := blk2 y
 have hB_4 := hB_2.alloc hB_2.size (.cells #[.int .i64 K, .int .i64 A] 73)
 have x_5 := x_3.alloc (.cells #[.int .i64 K, .int .i64 A] 73)
 have xk_5 := blk5 x_5
 have z_6 := z.alloc (.cells #[.int .i64 K, .int .i64 A] 73)
 have zk_6 := blk2 z_6
 have r := Blk.new (((w.alloc (.cells #[.string (bs D.data), .slice A1 D.cache.length a1, .int .i64 D.fuse, .bool D.off, .slice A2 D.bad.length a2] 25)).alloc (.cells #[.slice B1 L.targets.length b1, .slice B2 L.data.length b2] 67)).alloc (.cells #[.int .i64 K, .int .i64 A] 73)) 67 #[.slice none 0 0, .slice none 0 0]
 simp only [World.size_alloc] at r
 have rk := blk2 r
 have rkf := r.frozen
 have hB_7 := hB_4.alloc hB_4.size (.cells #[.slice none 0 0, .slice none 0 0] 67)
 have x_8 := x_5.alloc (.cells #[.slice none 0 0, .slice none 0 0] 67)
 have xk_8 := blk5 x_8
 have z_9 := z_6.alloc (.cells #[.slice none 0 0, .slice none 0 0] 67)
 have zk_9 := blk2 z_9
 have y_10 := y.alloc (.cells #[.slice none 0 0, .slice none 0 0] 67)
 have yk_10 := blk2 y_10
 go_enter Tryz.func72, Tryz.ntmps72
 go_wp2_with fail
 go_at_call 83
 refine ((hp _)).mono ?_
 rintro e w1 ⟨rfl, hb1⟩
 replace hB := bt hB_7 hb1
 replace x := x_8.below hb1 x_8.lt
 replace xk := blk5 x
 replace z := z_9.below hb1 z_9.lt
 replace zk := blk2 z
 replace y := y_10.below hb1 y_10.lt
 replace yk := blk2 y
 replace r := r.below hb1 r.lt
 replace rk := blk2 r
 replace rkf := r.frozen
 clear hB_1 hB_2 xk_3 x_3 hB_4 xk_5 x_5 zk_6 z_6 hB_7 xk_8 x_8 zk_9 z_9 yk_10 y_10
 go_wp2_with fail
 go_at_call 85
 refine ((he _)).mono ?_
 rintro e w2 ⟨rfl, hb2⟩
 replace hB := bt hB hb2
 replace x := x.below hb2 x.lt
 replace xk := blk5 x
 replace z := z.below hb2 z.lt
 replace zk := blk2 z
 replace y := y.below hb2 y.lt
 replace yk := blk2 y
 replace r := r.below hb2 r.lt
 replace rk := blk2 r
 replace rkf := r.frozen

 have w1l := hB.size
 have lt2 := r.lt
 go_wp2_with fail
 rw [Hr.out]
 have yy := blk2 (blk_set2 r (.slice B1 L.targets.length b1) (.slice B2 L.data.length b2))
 have b9 := below_set2 hB (g := w.heap.size + 1 + 1 + 1) (by omega) (.slice B1 L.targets.length b1) (.slice B2 L.data.length b2)
 refine bodyPost_ret (v := .tuple #[pval L ⟨B1, b1⟩ ⟨B2, b2⟩, .int .i64 23]) (by simp [results, Tryz.results72, go_sem, yy]) rfl ?_
 exact ⟨⟨_, _, rfl, Hz.out _ b9, fun _ _ h => h⟩, b9⟩

set_option maxRecDepth 100000 in
theorem t11_set_ok (D : Dk) (L : Pn) (p q p' q' : Pl) (w : World) (hD : IsDk w D p q) (hL : IsPn w L p' q') (hf : D.fit = true) (hfl : L.Fit) (t i K A : Int) (h : ¬ Pn.refused t i) (hk : Pn.entOk K A = true) :
 Calls Tryz.prog 72 #[dval D p q, pval L p' q', .int .i64 t, .int .i64 i, eval2 K A] w fun e w' => RetPn w.heap.size L p' q' (Pn.tabSet D L t i K A) e w' ∧ Below w.heap.size w w' := by
 have hs := Pn.entOk_small hk
 have Hr := hid (show Pn.tabSet D L t i K A = Pn.patch D L (Pn.entAt t i) (Pn.entOff i) (Pn.entBytes K A) by rw [Pn.tabSet, if_neg h, if_neg (by rw [hk]; simp)])
 have hat : -9223372036854775808 ≤ Pn.entAt t i ∧ Pn.entAt t i ≤ 9223372036854775807 := by unfold Pn.refused at h; unfold Pn.entAt; omega

 have hpa := fun (W : World) (hb : Below w.heap.size w W) => r5_patch D L p q p' q' W (hD.below hb) (hL.below hb) hf hfl (Pn.entAt t i) (Pn.entOff i) hat (Pn.entBytes K A) (by rw [Pn.entBytes_length]; omega)
 have hp := fun W => t11_refused t i W
 rw [decide_eq_false h] at hp
 have hp2 := fun W => t11_place t i h W
 have he := fun W => t11_entry K A W
 rw [hk] at he
 have hby : ∀ W, Calls Tryz.prog 86 #[eval2 K A] W fun e w' => e = .returned (.string (bs (Pn.entBytes K A))) ∧ Below W.heap.size W w' := by
  intro W
  obtain ⟨k, rfl⟩ := Int.eq_ofNat_of_zero_le hs.1
  obtain ⟨a, rfl⟩ := Int.eq_ofNat_of_zero_le hs.2.2.1
  have := t11_bytes (UInt8.ofNat k) a (by omega) W
  rw [show ((UInt8.ofNat k).toNat : Int) = k by simp; omega, ← Pn.entBytes_ref k a (by omega) (by omega)] at this
  exact this
 have Hap := hid (fun g (hg : w.heap.size ≤ g) => hL.apart hg)
 generalize Pn.entBytes K A = T at *
 generalize Pn.entAt t i = m at *
 generalize Pn.entOff i = o at *
 obtain ⟨X, hX⟩ : ∃ X, Pn.patch D L m o T = X := ⟨_, rfl⟩
 rw [hX] at hpa Hr
 clear hX hs h hk hD hL hf hfl hat
 obtain ⟨A1, a1⟩ := p
 obtain ⟨A2, a2⟩ := q
 obtain ⟨B1, b1⟩ := p'
 obtain ⟨B2, b2⟩ := q'
 have hB := Below.refl w.heap.size w
 have x := Blk.new w 25 #[.string (bs D.data), .slice A1 D.cache.length a1, .int .i64 D.fuse, .bool D.off, .slice A2 D.bad.length a2]
 have xk := blk5 x
 have hB_1 := hB.alloc hB.size (.cells #[.string (bs D.data), .slice A1 D.cache.length a1, .int .i64 D.fuse, .bool D.off, .slice A2 D.bad.length a2] 25)
 have z := Blk.new (w.alloc (.cells #[.string (bs D.data), .slice A1 D.cache.length a1, .int .i64 D.fuse, .bool D.off, .slice A2 D.bad.length a2] 25)) 67 #[.slice B1 L.targets.length b1, .slice B2 L.data.length b2]
 simp only [World.size_alloc] at z
 have zk := blk2 z
 have hB_2 := hB_1.alloc hB_1.size (.cells #[.slice B1 L.targets.length b1, .slice B2 L.data.length b2] 67)
 have x_3 := x.alloc (.cells #[.slice B1 L.targets.length b1, .slice B2 L.data.length b2] 67)
 have xk_3 := blk5 x_3
 have y := Blk.new ((w.alloc (.cells #[.string (bs D.data), .slice A1 D.cache.length a1, .int .i64 D.fuse, .bool D.off, .slice A2 D.bad.length a2] 25)).alloc (.cells #[.slice B1 L.targets.length b1, .slice B2 L.data.length b2] 67)) 73 #[.int .i64 K, .int .i64 A]
 simp only [World.size_alloc] at y
 have yk := blk2 y
 have hB_4 := hB_2.alloc hB_2.size (.cells #[.int .i64 K, .int .i64 A] 73)
 have x_5 := x_3.alloc (.cells #[.int .i64 K, .int .i64 A] 73)
 have xk_5 := blk5 x_5
 have z_6 := z.alloc (.cells #[.int .i64 K, .int .i64 A] 73)
 have zk_6 := blk2 z_6
 have r := Blk.new (((w.alloc (.cells #[.string (bs D.data), .slice A1 D.cache.length a1, .int .i64 D.fuse, .bool D.off, .slice A2 D.bad.length a2] 25)).alloc (.cells #[.slice B1 L.targets.length b1, .slice B2 L.data.length b2] 67)).alloc (.cells #[.int .i64 K, .int .i64 A] 73)) 67 #[.slice none 0 0, .slice none 0 0]
 simp only [World.size_alloc] at r
 have rk := blk2 r
 have rkf := r.frozen
 have hB_7 := hB_4.alloc hB_4.size (.cells #[.slice none 0 0, .slice none 0 0] 67)
 have x_8 := x_5.alloc (.cells #[.slice none 0 0, .slice none 0 0] 67)
 have xk_8 := blk5 x_8
 have z_9 := z_6.alloc (.cells #[.slice none 0 0, .slice none 0 0] 67)
 have zk_9 := blk2 z_9
 have y_10 := y.alloc (.cells #[.slice none 0 0, .slice none 0 0] 67)
 have yk_10 := blk2 y_10
 go_enter Tryz.func72, Tryz.ntmps72

 go_wp2_with fail
 go_at_call 83
 refine ((hp _)).mono ?_
 rintro e w1 ⟨rfl, hb1⟩
 replace hB := bt hB_7 hb1
 replace x := x_8.below hb1 x_8.lt
 replace xk := blk5 x
 replace z := z_9.below hb1 z_9.lt
 replace zk := blk2 z
 replace y := y_10.below hb1 y_10.lt
 replace yk := blk2 y
 replace r := r.below hb1 r.lt
 replace rk := blk2 r
 replace rkf := r.frozen
 clear hB_1 hB_2 xk_3 x_3 hB_4 xk_5 x_5 zk_6 z_6 hB_7 xk_8 x_8 zk_9 z_9 yk_10 y_10
 go_wp2_with fail
 go_at_call 85
 refine ((he _)).mono ?_
 rintro e w2 ⟨rfl, hb2⟩
 replace hB := bt hB hb2
 replace x := x.below hb2 x.lt
 replace xk := blk5 x
 replace z := z.below hb2 z.lt
 replace zk := blk2 z
 replace y := y.below hb2 y.lt
 replace yk := blk2 y
 replace r := r.below hb2 r.lt
 replace rk := blk2 r
 replace rkf := r.frozen
 go_wp2_with fail
 go_at_call 84
 refine ((hp2 _)).mono ?_
 rintro e w3 ⟨rfl, hb3⟩
 replace hB := bt hB hb3
 replace x := x.below hb3 x.lt
 replace xk := blk5 x
 replace z := z.below hb3 z.lt
 replace zk := blk2 z
 replace y := y.below hb3 y.lt
 replace yk := blk2 y
 replace r := r.below hb3 r.lt
 replace rk := blk2 r
 replace rkf := r.frozen
 go_wp2_with fail
 have s0 : (w3.drew.cell? ⟨w.heap.size, 0, none⟩ = some (.string (bs D.data)) ∧ w3.drew.cell? ⟨w.heap.size, 1, none⟩ = some (.slice A1 D.cache.length a1) ∧ w3.drew.cell? ⟨w.heap.size, 2, none⟩ = some (.int .i64 D.fuse) ∧ w3.drew.cell? ⟨w.heap.size, 3, none⟩ = some (.bool D.off) ∧ w3.drew.cell? ⟨w.heap.size, 4, none⟩ = some (.slice A2 D.bad.length a2)) ∧
  (w3.drew.cell? ⟨w.heap.size + 1, 0, none⟩ = some (.slice B1 L.targets.length b1) ∧ w3.drew.cell? ⟨w.heap.size + 1, 1, none⟩ = some (.slice B2 L.data.length b2)) ∧ (w3.drew.cell? ⟨w.heap.size + 1 + 1, 0, none⟩ = some (.int .i64 K) ∧ w3.drew.cell? ⟨w.heap.size + 1 + 1, 1, none⟩ = some (.int .i64 A)) ∧ Below w.heap.size w w3.drew := ⟨xk, zk, yk, hB.drew⟩
 have rd := r.drew
 have vl : w.heap.size + 1 + 1 + 1 < w3.drew.heap.size := r.lt
 clear xk zk yk x z y hp he
 go_region_held3 (fun W => (W.cell? ⟨w.heap.size, 0, none⟩ = some (.string (bs D.data)) ∧ W.cell? ⟨w.heap.size, 1, none⟩ = some (.slice A1 D.cache.length a1) ∧ W.cell? ⟨w.heap.size, 2, none⟩ = some (.int .i64 D.fuse) ∧ W.cell? ⟨w.heap.size, 3, none⟩ = some (.bool D.off) ∧ W.cell? ⟨w.heap.size, 4, none⟩ = some (.slice A2 D.bad.length a2)) ∧
  (W.cell? ⟨w.heap.size + 1, 0, none⟩ = some (.slice B1 L.targets.length b1) ∧ W.cell? ⟨w.heap.size + 1, 1, none⟩ = some (.slice B2 L.data.length b2)) ∧ (W.cell? ⟨w.heap.size + 1 + 1, 0, none⟩ = some (.int .i64 K) ∧ W.cell? ⟨w.heap.size + 1 + 1, 1, none⟩ = some (.int .i64 A)) ∧ Below w.heap.size w W)
  (first | exact s0 | exact held9t s0 hbl1 | exact held9t (held9t s0 hbl1) hbl2 | exact held9ts (held9t (held9t s0 hbl1) hbl2) (by omega) (by omega) (by omega) (by omega) _ _)
  (first | (go_at_call 86; refine (hby _).mono ?_; rintro e W1 ⟨rfl, hbl1⟩; have r1 := rd.below hbl1 rd.lt) | (go_at_call 78; refine (hpa _ (held9t s0 hbl1).2.2.2).mono ?_; rintro e W2 ⟨⟨p3, q3, rfl, i3, o3⟩, hbl2⟩; have r2 := r1.below hbl2 r1.lt; have rk2 := blk2 r2; have rf2 := r2.frozen))
 go_wp2_with fail
 rw [Hr.out]
 have ho := o3 (w.heap.size + 1 + 1 + 1) (Nat.lt_of_lt_of_le vl hbl1.size) (Hap.out _ (by omega))
 have yy := blk2 (blk_set2 r2 (.slice p3.a X.1.targets.length p3.c) (.slice q3.a X.1.data.length q3.c))
 have b9 := below_set2 (held9t (held9t s0 hbl1) hbl2).2.2.2 (g := w.heap.size + 1 + 1 + 1) (by omega) (.slice p3.a X.1.targets.length p3.c) (.slice q3.a X.1.data.length q3.c)
 refine bodyPost_ret (v := .tuple #[pval X.1 p3 q3, .int .i64 X.2]) (by simp [results, Tryz.results72, go_sem, yy]) rfl ?_
 exact ⟨⟨_, _, rfl, i3.off2 ho _ _, fun g hg h => o3 g (Nat.lt_of_lt_of_le hg ((held9t s0 hbl1).2.2.2.size)) h⟩, b9⟩
theorem t11_set (D : Dk) (L : Pn) (p q p' q' : Pl) (w : World) (hD : IsDk w D p q) (hL : IsPn w L p' q') (hf : D.fit = true) (hfl : L.Fit) (t i K A : Int) :
 Calls Tryz.prog 72 #[dval D p q, pval L p' q', .int .i64 t, .int .i64 i, eval2 K A] w fun e w' => RetPn w.heap.size L p' q' (Pn.tabSet D L t i K A) e w' ∧ Below w.heap.size w w' := by
 by_cases h : Pn.refused t i
 · exact t11_set_refused D L p q p' q' w hL t i K A h
 · cases hk : Pn.entOk K A with
   | false => exact t11_set_kind D L p q p' q' w hL t i K A h hk
   | true => exact t11_set_ok D L p q p' q' w hD hL hf hfl t i K A h hk
end Go.Proofs.YtlapjkbefkmohaaGreat
