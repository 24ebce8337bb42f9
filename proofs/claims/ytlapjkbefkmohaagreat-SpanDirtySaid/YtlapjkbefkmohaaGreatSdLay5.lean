/- Package cofferdamref05: a plan laid on a device. -/
import Derived.Test.YtlapjkbefkmohaaGreatSdLay2
import Derived.Test.YtlapjkbefkmohaaGreatSdRef01b
import Derived.Deep.RegionHeld3
import Derived.BigQuiet
set_option linter.unusedVariables false
namespace Go.Proofs.YtlapjkbefkmohaaGreat
open Go.RowKit Go.Shelf
attribute [local go_sem] bs_mk bs_append bs_extract bs_size bs_toList bs_get
structure LayBox5 (V : World) (B0 : Nat) (t : TypeId) (D0 : Dk) (p0 q0 : Pl) (X : Dk) : Prop where
 ex : ∃ p q : Pl, Blk V B0 t #[.string (bs X.data), .slice p.a X.cache.length p.c, .int .i64 X.fuse, .bool X.off, .slice q.a X.bad.length q.c] ∧ IsDk V X p q ∧ (∀ g, g ≤ B0 + 1 + 1 → (g < B0 → DkOff g D0 p0 q0) → DkOff g X p q)
 zero : Blk V (B0 + 1 + 1) t #[.string (bs []), .slice none 0 0, .int .i64 0, .bool false, .slice none 0 0]
theorem held9 {wr V W : World} {B c1 o1 c2 o2 : Nat} {u0 u1 u2 u3 u4 t0 t1 x0 x1 : Value} (h : (V.cell? ⟨B, 0, none⟩ = some u0 ∧ V.cell? ⟨B, 1, none⟩ = some u1 ∧ V.cell? ⟨B, 2, none⟩ = some u2 ∧ V.cell? ⟨B, 3, none⟩ = some u3 ∧ V.cell? ⟨B, 4, none⟩ = some u4) ∧ (V.cell? ⟨B + 1, 0, none⟩ = some t0 ∧ V.cell? ⟨B + 1, 1, none⟩ = some t1) ∧
 (V.cell? ⟨c1, o1, none⟩ = some x0 ∧ V.cell? ⟨c2, o2, none⟩ = some x1) ∧ Below wr.heap.size wr V) (hb : Below V.heap.size V W) :
 (W.cell? ⟨B, 0, none⟩ = some u0 ∧ W.cell? ⟨B, 1, none⟩ = some u1 ∧ W.cell? ⟨B, 2, none⟩ = some u2 ∧ W.cell? ⟨B, 3, none⟩ = some u3 ∧ W.cell? ⟨B, 4, none⟩ = some u4) ∧ (W.cell? ⟨B + 1, 0, none⟩ = some t0 ∧ W.cell? ⟨B + 1, 1, none⟩ = some t1) ∧
  (W.cell? ⟨c1, o1, none⟩ = some x0 ∧ W.cell? ⟨c2, o2, none⟩ = some x1) ∧ Below wr.heap.size wr W := by
 obtain ⟨⟨a, b, c, d, e⟩, ⟨f, g⟩, ⟨i, j⟩, k⟩ := h
 exact ⟨⟨cell_below hb a, cell_below hb b, cell_below hb c, cell_below hb d, cell_below hb e⟩, ⟨cell_below hb f, cell_below hb g⟩, ⟨cell_below hb i, cell_below hb j⟩, bt k hb⟩
theorem held9a {wr V : World} {B c1 o1 c2 o2 : Nat} {u0 u1 u2 u3 u4 t0 t1 x0 x1 : Value} (h : (V.cell? ⟨B, 0, none⟩ = some u0 ∧ V.cell? ⟨B, 1, none⟩ = some u1 ∧ V.cell? ⟨B, 2, none⟩ = some u2 ∧ V.cell? ⟨B, 3, none⟩ = some u3 ∧ V.cell? ⟨B, 4, none⟩ = some u4) ∧ (V.cell? ⟨B + 1, 0, none⟩ = some t0 ∧ V.cell? ⟨B + 1, 1, none⟩ = some t1) ∧
 (V.cell? ⟨c1, o1, none⟩ = some x0 ∧ V.cell? ⟨c2, o2, none⟩ = some x1) ∧ Below wr.heap.size wr V) (o : Obj) :
 ((V.alloc o).cell? ⟨B, 0, none⟩ = some u0 ∧ (V.alloc o).cell? ⟨B, 1, none⟩ = some u1 ∧ (V.alloc o).cell? ⟨B, 2, none⟩ = some u2 ∧ (V.alloc o).cell? ⟨B, 3, none⟩ = some u3 ∧ (V.alloc o).cell? ⟨B, 4, none⟩ = some u4) ∧ ((V.alloc o).cell? ⟨B + 1, 0, none⟩ = some t0 ∧ (V.alloc o).cell? ⟨B + 1, 1, none⟩ = some t1) ∧
  ((V.alloc o).cell? ⟨c1, o1, none⟩ = some x0 ∧ (V.alloc o).cell? ⟨c2, o2, none⟩ = some x1) ∧ Below wr.heap.size wr (V.alloc o) := held9 h ((Below.refl _ _).alloc (Nat.le_refl _) o)
theorem held9s {wr V : World} {B c1 o1 c2 o2 g : Nat} {u0 u1 u2 u3 u4 t0 t1 x0 x1 : Value} (h : (V.cell? ⟨B, 0, none⟩ = some u0 ∧ V.cell? ⟨B, 1, none⟩ = some u1 ∧ V.cell? ⟨B, 2, none⟩ = some u2 ∧ V.cell? ⟨B, 3, none⟩ = some u3 ∧ V.cell? ⟨B, 4, none⟩ = some u4) ∧ (V.cell? ⟨B + 1, 0, none⟩ = some t0 ∧ V.cell? ⟨B + 1, 1, none⟩ = some t1) ∧
 (V.cell? ⟨c1, o1, none⟩ = some x0 ∧ V.cell? ⟨c2, o2, none⟩ = some x1) ∧ Below wr.heap.size wr V) (hg : wr.heap.size ≤ g) (hB : B + 1 < g) (hc : c1 < g ∧ c2 < g) (v0 v1 v2 v3 v4 : Value) {W : World} (e : W = ((((V.setCell ⟨g, 0, none⟩ v0).setCell ⟨g, 1, none⟩ v1).setCell ⟨g, 2, none⟩ v2).setCell ⟨g, 3, none⟩ v3).setCell ⟨g, 4, none⟩ v4) :
 (W.cell? ⟨B, 0, none⟩ = some u0 ∧ W.cell? ⟨B, 1, none⟩ = some u1 ∧ W.cell? ⟨B, 2, none⟩ = some u2 ∧ W.cell? ⟨B, 3, none⟩ = some u3 ∧ W.cell? ⟨B, 4, none⟩ = some u4) ∧ (W.cell? ⟨B + 1, 0, none⟩ = some t0 ∧ W.cell? ⟨B + 1, 1, none⟩ = some t1) ∧
  (W.cell? ⟨c1, o1, none⟩ = some x0 ∧ W.cell? ⟨c2, o2, none⟩ = some x1) ∧ Below wr.heap.size wr W := by
 obtain ⟨⟨h0, h1, h2, h3, h4⟩, ⟨h5, h6⟩, ⟨h7, h8⟩, k⟩ := h
 have hh : ∀ b o u, b ≠ g → V.cell? ⟨b, o, none⟩ = some u → W.cell? ⟨b, o, none⟩ = some u := fun b o u hb hu => by
  subst e
  rw [World.cell?_of_block (w := V) (a := ⟨b, o, none⟩) (by simp only; rw [Below.heap_setCell _ _ _ _ hb, Below.heap_setCell _ _ _ _ hb, Below.heap_setCell _ _ _ _ hb, Below.heap_setCell _ _ _ _ hb, Below.heap_setCell _ _ _ _ hb])]
  exact hu
 refine ⟨⟨hh _ _ _ (by omega) h0, hh _ _ _ (by omega) h1, hh _ _ _ (by omega) h2, hh _ _ _ (by omega) h3, hh _ _ _ (by omega) h4⟩, ⟨hh _ _ _ (by omega) h5, hh _ _ _ (by omega) h6⟩, ⟨hh _ _ _ (by omega) h7, hh _ _ _ (by omega) h8⟩, ?_⟩
 subst e
 exact below_set5 k hg v0 v1 v2 v3 v4
set_option maxRecDepth 100000 in
set_option maxHeartbeats 1000000 in
theorem r5_lay (D : Dk) (L : Pn) (p q p' q' : Pl) (w : World) (hD : IsDk w D p q) (hL : IsPn w L p' q') (hlen : L.targets.length = L.data.length) (hmany : L.targets.length ≤ 1000000) :
 Calls Tryz.prog 53 #[dval D p q, pval L p' q'] w fun e w' => RetDkN w.heap.size D p q (Pn.lay D L) e w' ∧ Below w.heap.size w w' := by
 have hLW := hid (fun (W : World) (hb : Below w.heap.size w W) => (hL.below hb : IsPn W L p' q'))
 have hDW := hid (fun (W : World) (hb : Below w.heap.size w W) => (hD.below hb : IsDk W D p q))
 have HDo := hid (fun g (hg : w.heap.size ≤ g) => hD.apart hg)
 have Hlen := hid hlen
 clear hD hL hlen
 obtain ⟨A1, a1⟩ := p
 obtain ⟨A2, a2⟩ := q
 obtain ⟨B1, b1⟩ := p'
 obtain ⟨B2, b2⟩ := q'
 have hB := Below.refl w.heap.size w
 have x := Blk.new w 25 #[.string (bs D.data), .slice A1 D.cache.length a1, .int .i64 D.fuse, .bool D.off, .slice A2 D.bad.length a2]
 have xk := blk5 x
 have hB_1 := hB.alloc hB.size (.cells #[.string (bs D.data), .slice A1 D.cache.length a1, .int .i64 D.fuse, .bool D.off, .slice A2 D.bad.length a2] 25)
 have z := Blk.new (w.alloc (.cells #[.string (bs D.data), .slice A1 D.cache.length a1, .int .i64 D.fuse, .bool D.off, .slice A2 D.bad.length a2] 25)) 67 #[.slice B1 L.targets.length b1, .slice B2 L.data.length b2]
 simp only [World.size_alloc] at z
 have zk := blk2 z
 have hB_2 := hB_1.alloc hB_1.size (.cells #[.slice B1 L.targets.length b1, .slice B2 L.data.length b2] 67)
 have x_3 := x.alloc (.cells #[.slice B1 L.targets.length b1, .slice B2 L.data.length b2] 67)
 have xk_3 := blk5 x_3
 have r := Blk.new ((w.alloc (.cells #[.string (bs D.data), .slice A1 D.cache.length a1, .int .i64 D.fuse, .bool D.off, .slice A2 D.bad.length a2] 25)).alloc (.cells #[.slice B1 L.targets.length b1, .slice B2 L.data.length b2] 67)) 25 #[.string (bs []), .slice none 0 0, .int .i64 0, .bool false, .slice none 0 0]
 simp only [World.size_alloc] at r
 have rk := blk5 r
 have hB_4 := hB_2.alloc hB_2.size (.cells #[.string (bs []), .slice none 0 0, .int .i64 0, .bool false, .slice none 0 0] 25)
 have x_5 := x_3.alloc (.cells #[.string (bs []), .slice none 0 0, .int .i64 0, .bool false, .slice none 0 0] 25)
 have xk_5 := blk5 x_5
 have z_6 := z.alloc (.cells #[.string (bs []), .slice none 0 0, .int .i64 0, .bool false, .slice none 0 0] 25)
 have zk_6 := blk2 z_6
 go_enter Tryz.func53, Tryz.ntmps53
 go_wp2_with fail
 go_loopw [6] (fun u W => ∃ i : Nat, i ≤ L.secs.length ∧ u = .int .i64 i ∧ ∃ X : Dk, Hid (Dk.layIn (L.secs.take i) D = (X, 0)) ∧ LayBox5 W w.heap.size 25 D ⟨A1, a1⟩ ⟨A2, a2⟩ X ∧ Blk W (w.heap.size + 1) 67 #[.slice B1 L.targets.length b1, .slice B2 L.data.length b2] ∧ Below w.heap.size w W) (fun u _ => L.secs.length - (intOf u).toNat)
 case atStart => exact ⟨0, Nat.zero_le _, rfl, D, hid rfl, ⟨⟨⟨A1, a1⟩, ⟨A2, a2⟩, x_5, hDW.out _ hB_4, fun g _ h2 => by rcases Nat.lt_or_ge g w.heap.size with h | h; (exact h2 h); (exact HDo.out g h)⟩, r⟩, z_6, hB_4⟩
 case round =>
  obtain ⟨i, hi, rfl, X, hX, ⟨⟨p1, q1, h1, h2, h3⟩, h4⟩, hz, hb⟩ := hrel
  have z1 := blk5 h1
  have z2 := blk2 hz
  have z4 := blk5 h4
  have v4 := h4.frozen
  have hsl := secs_length L Hlen.out
  by_cases hlt : i < L.secs.length
  · obtain ⟨m1, m2, hze⟩ := secs_at L i hlt
    have hP := hLW.out wr hb
    obtain ⟨c1, o1, e1, ct⟩ := hP.targets.int m1
    obtain ⟨c2, o2, e2, cs⟩ := hP.data.str m2
    have e1' : B1 = some ⟨c1, o1, none⟩ := e1
    have e2' : B2 = some ⟨c2, o2, none⟩ := e2
    subst e1' e2'
    have ct := ct i m1
    have cs := cs i m2
    have hk := hP.ats _ (List.getElem_mem m1)
    have hs := hP.strs _ (List.getElem_mem m2)
    obtain ⟨⟨E, er⟩, hE⟩ : ∃ X', X.write L.targets[i] L.data[i] = X' := ⟨_, rfl⟩
    have Hn := hid (show Dk.layIn (L.secs.take (i + 1)) D = (E, er) by
     rw [List.take_succ_eq_append_getElem hlt, Dk.layIn_snoc _ _ _ (by rw [hX.out]), hX.out, hze]; exact hE)
    have hw := fun (W : World) (hb : Below wr.heap.size wr W) => r1_write_n X p1 q1 W (h2.below hb) L.targets[i] hk L.data[i] hs
    simp only [hE] at hw
    have Hst := hid (fun (h : er ≠ 0) => show Pn.lay D L = (E, er) by
     have e : L.secs = L.secs.take (i + 1) ++ L.secs.drop (i + 1) := (List.take_append_drop _ _).symm
     show Dk.layIn L.secs D = _
     rw [e, Dk.layIn_stop _ _ _ (by rw [Hn.out]; exact h), Hn.out])
    clear hP e1 e2 hE hze hX
    have m1' : decide (i < L.targets.length) = true := by simpa using m1
    have m2' : decide (i < L.data.length) = true := by simpa using m2
    have H3 := hid h3
    have Hsl := hid hsl
    clear h3 hsl
    generalize L.targets[i] = k at *
    generalize L.data[i] = s at *
    go_wp2_with fail
    have hwr : w.heap.size + 1 + 1 < wr.heap.size := h4.lt
    have hwl : w.heap.size + 1 < wr.heap.size := hz.lt
    have hcl : c1 < wr.heap.size ∧ c2 < wr.heap.size := ⟨lt_of_cell ct, lt_of_cell cs⟩
    have hbr := (Below.refl wr.heap.size wr).drew
    have s0 : (wr.drew.cell? ⟨w.heap.size, 0, none⟩ = some (.string (bs X.data)) ∧ wr.drew.cell? ⟨w.heap.size, 1, none⟩ = some (.slice p1.a X.cache.length p1.c) ∧ wr.drew.cell? ⟨w.heap.size, 2, none⟩ = some (.int .i64 X.fuse) ∧ wr.drew.cell? ⟨w.heap.size, 3, none⟩ = some (.bool X.off) ∧ wr.drew.cell? ⟨w.heap.size, 4, none⟩ = some (.slice q1.a X.bad.length q1.c)) ∧ (wr.drew.cell? ⟨w.heap.size + 1, 0, none⟩ = some (.slice (some ⟨c1, o1, none⟩) L.targets.length b1) ∧ wr.drew.cell? ⟨w.heap.size + 1, 1, none⟩ = some (.slice (some ⟨c2, o2, none⟩) L.data.length b2)) ∧ (wr.drew.cell? ⟨c1, o1 + i, none⟩ = some (.int .i64 k) ∧ wr.drew.cell? ⟨c2, o2 + i, none⟩ = some (.string (bs s))) ∧ Below wr.heap.size wr wr.drew := ⟨z1, z2, ⟨ct, cs⟩, hbr⟩
    have s1 : (((wr.alloc (.cells #[.string (bs []), .slice none 0 0, .int .i64 0, .bool false, .slice none 0 0] 25)).drew).cell? ⟨w.heap.size, 0, none⟩ = some (.string (bs X.data)) ∧ ((wr.alloc (.cells #[.string (bs []), .slice none 0 0, .int .i64 0, .bool false, .slice none 0 0] 25)).drew).cell? ⟨w.heap.size, 1, none⟩ = some (.slice p1.a X.cache.length p1.c) ∧ ((wr.alloc (.cells #[.string (bs []), .slice none 0 0, .int .i64 0, .bool false, .slice none 0 0] 25)).drew).cell? ⟨w.heap.size, 2, none⟩ = some (.int .i64 X.fuse) ∧ ((wr.alloc (.cells #[.string (bs []), .slice none 0 0, .int .i64 0, .bool false, .slice none 0 0] 25)).drew).cell? ⟨w.heap.size, 3, none⟩ = some (.bool X.off) ∧ ((wr.alloc (.cells #[.string (bs []), .slice none 0 0, .int .i64 0, .bool false, .slice none 0 0] 25)).drew).cell? ⟨w.heap.size, 4, none⟩ = some (.slice q1.a X.bad.length q1.c)) ∧ (((wr.alloc (.cells #[.string (bs []), .slice none 0 0, .int .i64 0, .bool false, .slice none 0 0] 25)).drew).cell? ⟨w.heap.size + 1, 0, none⟩ = some (.slice (some ⟨c1, o1, none⟩) L.targets.length b1) ∧ ((wr.alloc (.cells #[.string (bs []), .slice none 0 0, .int .i64 0, .bool false, .slice none 0 0] 25)).drew).cell? ⟨w.heap.size + 1, 1, none⟩ = some (.slice (some ⟨c2, o2, none⟩) L.data.length b2)) ∧ (((wr.alloc (.cells #[.string (bs []), .slice none 0 0, .int .i64 0, .bool false, .slice none 0 0] 25)).drew).cell? ⟨c1, o1 + i, none⟩ = some (.int .i64 k) ∧ ((wr.alloc (.cells #[.string (bs []), .slice none 0 0, .int .i64 0, .bool false, .slice none 0 0] 25)).drew).cell? ⟨c2, o2 + i, none⟩ = some (.string (bs s))) ∧ Below wr.heap.size wr ((wr.alloc (.cells #[.string (bs []), .slice none 0 0, .int .i64 0, .bool false, .slice none 0 0] 25)).drew) := held9 s0 ((Below.refl wr.heap.size wr.drew).alloc (Nat.le_refl _) (.cells #[.string (bs []), .slice none 0 0, .int .i64 0, .bool false, .slice none 0 0] 25))
    have hbr1 : Below wr.heap.size wr ((wr.alloc (.cells #[.string (bs []), .slice none 0 0, .int .i64 0, .bool false, .slice none 0 0] 25)).drew) := hbr.alloc (Nat.le_refl _) (.cells #[.string (bs []), .slice none 0 0, .int .i64 0, .bool false, .slice none 0 0] 25)
    have rn : Blk ((wr.alloc (.cells #[.string (bs []), .slice none 0 0, .int .i64 0, .bool false, .slice none 0 0] 25)).drew) wr.heap.size 25 #[.string (bs []), .slice none 0 0, .int .i64 0, .bool false, .slice none 0 0] := Blk.new wr.drew 25 #[.string (bs []), .slice none 0 0, .int .i64 0, .bool false, .slice none 0 0]
    have rl : wr.heap.size < ((wr.alloc (.cells #[.string (bs []), .slice none 0 0, .int .i64 0, .bool false, .slice none 0 0] 25)).drew).heap.size := rn.lt
    go_region_held3 (fun W => (W.cell? ⟨w.heap.size, 0, none⟩ = some (.string (bs X.data)) ∧ W.cell? ⟨w.heap.size, 1, none⟩ = some (.slice p1.a X.cache.length p1.c) ∧ W.cell? ⟨w.heap.size, 2, none⟩ = some (.int .i64 X.fuse) ∧ W.cell? ⟨w.heap.size, 3, none⟩ = some (.bool X.off) ∧ W.cell? ⟨w.heap.size, 4, none⟩ = some (.slice q1.a X.bad.length q1.c)) ∧ (W.cell? ⟨w.heap.size + 1, 0, none⟩ = some (.slice (some ⟨c1, o1, none⟩) L.targets.length b1) ∧ W.cell? ⟨w.heap.size + 1, 1, none⟩ = some (.slice (some ⟨c2, o2, none⟩) L.data.length b2)) ∧ (W.cell? ⟨c1, o1 + i, none⟩ = some (.int .i64 k) ∧ W.cell? ⟨c2, o2 + i, none⟩ = some (.string (bs s))) ∧ Below wr.heap.size wr W)
     (with_reducible (first | exact s0 | exact held9 s0 hbl | exact s1 | exact held9 s1 hbl | exact held9a (held9 s0 hbl) _ | exact held9s (held9 s1 hbl) (Nat.le_refl _) hwl hcl _ _ _ _ _ rfl))
     (first | (go_at_call 37; refine (hw _ hbr).mono ?_; rintro e W1 ⟨⟨p2, q2, rfl, i2, o2'⟩, hbl⟩) | (go_at_call 37; refine (hw _ hbr1).mono ?_; rintro e W1 ⟨⟨p2, q2, rfl, i2, o2'⟩, hbl⟩; have r1 := rn.below hbl rl; have rk1 := blk5 r1; have rf1 := r1.frozen))
    · have g7l : wr.heap.size ≤ W1.heap.size := by first | exact hbl.size | omega
      have hb2 := (hbl.alloc hbl.size (.cells #[.string (bs E.data), .slice p2.a E.cache.length p2.c, .int .i64 E.fuse, .bool E.off, .slice q2.a E.bad.length q2.c] 25))
      have hb1 : Below wr.heap.size wr (W1.alloc (.cells #[.string (bs E.data), .slice p2.a E.cache.length p2.c, .int .i64 E.fuse, .bool E.off, .slice q2.a E.bad.length q2.c] 25)) := (Below.refl wr.heap.size wr).drew.trans hb2
      have bt7 := Blk.new W1 25 #[.string (bs E.data), .slice p2.a E.cache.length p2.c, .int .i64 E.fuse, .bool E.off, .slice q2.a E.bad.length q2.c]
      have bd7 := h1.below hb1 h1.lt
      have bz7 := hz.below hb1 hz.lt
      have br7 := h4.below hb1 h4.lt
      have i7 := i2.below ((Below.refl W1.heap.size W1).alloc (Nat.le_refl _) (.cells #[.string (bs E.data), .slice p2.a E.cache.length p2.c, .int .i64 E.fuse, .bool E.off, .slice q2.a E.bad.length q2.c] 25))
      have b7 := bt hb hb1
      clear hb2 hb1 hbl i2 h1 hz h4 hb z1 z2 z4 v4 ct cs hw hbr hbr1 s0 s1 rn hwl hcl
      generalize W1.alloc (.cells #[.string (bs E.data), .slice p2.a E.cache.length p2.c, .int .i64 E.fuse, .bool E.off, .slice q2.a E.bad.length q2.c] 25) = U at *
      generalize W1.heap.size = g7 at *
      have lt7 : w.heap.size + 1 + 1 < g7 := Nat.lt_of_lt_of_le hwr g7l
      have kt := blk5 bt7
      have kd := blk5 bd7
      have fd := bd7.frozen
      have kr := blk5 br7
      have fr := br7.frozen
      have H3' := hid (fun g (g1 : g ≤ w.heap.size + 1 + 1) (g2 : g < w.heap.size → DkOff g D ⟨A1, a1⟩ ⟨A2, a2⟩) => o2' g (Nat.lt_of_le_of_lt g1 hwr) (H3.out g g1 g2))
      have od : DkOff w.heap.size E p2 q2 := H3'.out _ (by omega) (fun h => absurd h (by omega))
      have or_ : DkOff (w.heap.size + 1 + 1) E p2 q2 := H3'.out _ (by omega) (fun h => absurd h (by omega))
      clear rl
      clear g7l
      by_cases he : er = 0
      · subst he
        go_wp2_with fail
        go_roundw
        case rel => exact ⟨i + 1, by omega, by go_num, E, Hn, ⟨⟨p2, q2, blk_set5 bd7 (.string (bs E.data)) (.slice p2.a E.cache.length p2.c) (.int .i64 E.fuse) (.bool E.off) (.slice q2.a E.bad.length q2.c), i7.off5 od (.string (bs E.data)) (.slice p2.a E.cache.length p2.c) (.int .i64 E.fuse) (.bool E.off) (.slice q2.a E.bad.length q2.c), H3'.out⟩, blk_off5 br7 (by omega) (.string (bs E.data)) (.slice p2.a E.cache.length p2.c) (.int .i64 E.fuse) (.bool E.off) (.slice q2.a E.bad.length q2.c)⟩, blk_off5 bz7 (by omega) (.string (bs E.data)) (.slice p2.a E.cache.length p2.c) (.int .i64 E.fuse) (.bool E.off) (.slice q2.a E.bad.length q2.c), below_set5 b7 (Nat.le_refl _) (.string (bs E.data)) (.slice p2.a E.cache.length p2.c) (.int .i64 E.fuse) (.bool E.off) (.slice q2.a E.bad.length q2.c)⟩
        case measure => simp [intOf]; omega
      · have Hl := hid (Hst.out he)
        have n1 : (er != 0) = true := by simpa using he
        clear he Hst
        go_wp2_with fail
        have yy := blk5 (blk_set5 (blk_off5 br7 (g := w.heap.size) (by omega) (.string (bs E.data)) (.slice p2.a E.cache.length p2.c) (.int .i64 E.fuse) (.bool E.off) (.slice q2.a E.bad.length q2.c)) (.string (bs E.data)) (.slice p2.a E.cache.length p2.c) (.int .i64 E.fuse) (.bool E.off) (.slice q2.a E.bad.length q2.c))
        refine bodyPost_ret (v := .tuple #[dval E p2 q2, .int .i64 er]) (by simp [results, Tryz.results53, go_sem, yy]) rfl ?_
        exact ⟨⟨p2, q2, by rw [Hl.out], by rw [Hl.out]; exact (i7.off5 od (.string (bs E.data)) (.slice p2.a E.cache.length p2.c) (.int .i64 E.fuse) (.bool E.off) (.slice q2.a E.bad.length q2.c)).off5 or_ (.string (bs E.data)) (.slice p2.a E.cache.length p2.c) (.int .i64 E.fuse) (.bool E.off) (.slice q2.a E.bad.length q2.c), by rw [Hl.out]; exact fun g g1 g2 => H3'.out g (by omega) (fun _ => g2)⟩, below_set5 (below_set5 b7 (Nat.le_refl _) (.string (bs E.data)) (.slice p2.a E.cache.length p2.c) (.int .i64 E.fuse) (.bool E.off) (.slice q2.a E.bad.length q2.c)) (by omega) (.string (bs E.data)) (.slice p2.a E.cache.length p2.c) (.int .i64 E.fuse) (.bool E.off) (.slice q2.a E.bad.length q2.c)⟩
    · have bs5 := below_set5 (Below.refl wr.heap.size W1) (g := wr.heap.size) (Nat.le_refl _) (.string (bs E.data)) (.slice p2.a E.cache.length p2.c) (.int .i64 E.fuse) (.bool E.off) (.slice q2.a E.bad.length q2.c)
      have hb1 := ((hbr1.trans (hbl.mono (Nat.le_of_lt rl))).trans bs5)
      have bt7 := blk_set5 r1 (.string (bs E.data)) (.slice p2.a E.cache.length p2.c) (.int .i64 E.fuse) (.bool E.off) (.slice q2.a E.bad.length q2.c)
      have bd7 := h1.below hb1 h1.lt
      have bz7 := hz.below hb1 hz.lt
      have br7 := h4.below hb1 h4.lt
      have hap : DkOff wr.heap.size E p2 q2 := o2' _ rl (h2.apart (Nat.le_refl _))
      have i7 := i2.off5 hap (.string (bs E.data)) (.slice p2.a E.cache.length p2.c) (.int .i64 E.fuse) (.bool E.off) (.slice q2.a E.bad.length q2.c)
      have b7 := bt hb hb1
      replace o2' := fun g (hg : g < wr.heap.size) => o2' g (Nat.lt_trans hg rl)
      clear hb1 hbl i2 h1 hz h4 hb z1 z2 z4 v4 ct cs hw hbr hbr1 s0 s1 rn hwl hcl r1 rk1 rf1 bs5 h2 hap
      generalize (((((W1.setCell ⟨wr.heap.size, 0, none⟩ (.string (bs E.data))).setCell ⟨wr.heap.size, 1, none⟩ (.slice p2.a E.cache.length p2.c)).setCell ⟨wr.heap.size, 2, none⟩ (.int .i64 E.fuse)).setCell ⟨wr.heap.size, 3, none⟩ (.bool E.off)).setCell ⟨wr.heap.size, 4, none⟩ (.slice q2.a E.bad.length q2.c)) = U at *
      obtain ⟨g7, hg7⟩ : ∃ g7, wr.heap.size = g7 := ⟨_, rfl⟩
      rw [hg7] at bt7 ⊢
      have g7l : wr.heap.size ≤ g7 := Nat.le_of_eq hg7
      have lt7 : w.heap.size + 1 + 1 < g7 := Nat.lt_of_lt_of_le hwr g7l
      have kt := blk5 bt7
      have kd := blk5 bd7
      have fd := bd7.frozen
      have kr := blk5 br7
      have fr := br7.frozen
      have H3' := hid (fun g (g1 : g ≤ w.heap.size + 1 + 1) (g2 : g < w.heap.size → DkOff g D ⟨A1, a1⟩ ⟨A2, a2⟩) => o2' g (Nat.lt_of_le_of_lt g1 hwr) (H3.out g g1 g2))
      have od : DkOff w.heap.size E p2 q2 := H3'.out _ (by omega) (fun h => absurd h (by omega))
      have or_ : DkOff (w.heap.size + 1 + 1) E p2 q2 := H3'.out _ (by omega) (fun h => absurd h (by omega))
      clear rl
      clear g7l
      by_cases he : er = 0
      · subst he
        go_wp2_with fail
        go_roundw
        case rel => exact ⟨i + 1, by omega, by go_num, E, Hn, ⟨⟨p2, q2, blk_set5 bd7 (.string (bs E.data)) (.slice p2.a E.cache.length p2.c) (.int .i64 E.fuse) (.bool E.off) (.slice q2.a E.bad.length q2.c), i7.off5 od (.string (bs E.data)) (.slice p2.a E.cache.length p2.c) (.int .i64 E.fuse) (.bool E.off) (.slice q2.a E.bad.length q2.c), H3'.out⟩, blk_off5 br7 (by omega) (.string (bs E.data)) (.slice p2.a E.cache.length p2.c) (.int .i64 E.fuse) (.bool E.off) (.slice q2.a E.bad.length q2.c)⟩, blk_off5 bz7 (by omega) (.string (bs E.data)) (.slice p2.a E.cache.length p2.c) (.int .i64 E.fuse) (.bool E.off) (.slice q2.a E.bad.length q2.c), below_set5 b7 (Nat.le_refl _) (.string (bs E.data)) (.slice p2.a E.cache.length p2.c) (.int .i64 E.fuse) (.bool E.off) (.slice q2.a E.bad.length q2.c)⟩
        case measure => simp [intOf]; omega
      · have Hl := hid (Hst.out he)
        have n1 : (er != 0) = true := by simpa using he
        clear he Hst
        go_wp2_with fail
        have yy := blk5 (blk_set5 (blk_off5 br7 (g := w.heap.size) (by omega) (.string (bs E.data)) (.slice p2.a E.cache.length p2.c) (.int .i64 E.fuse) (.bool E.off) (.slice q2.a E.bad.length q2.c)) (.string (bs E.data)) (.slice p2.a E.cache.length p2.c) (.int .i64 E.fuse) (.bool E.off) (.slice q2.a E.bad.length q2.c))
        refine bodyPost_ret (v := .tuple #[dval E p2 q2, .int .i64 er]) (by simp [results, Tryz.results53, go_sem, yy]) rfl ?_
        exact ⟨⟨p2, q2, by rw [Hl.out], by rw [Hl.out]; exact (i7.off5 od (.string (bs E.data)) (.slice p2.a E.cache.length p2.c) (.int .i64 E.fuse) (.bool E.off) (.slice q2.a E.bad.length q2.c)).off5 or_ (.string (bs E.data)) (.slice p2.a E.cache.length p2.c) (.int .i64 E.fuse) (.bool E.off) (.slice q2.a E.bad.length q2.c), by rw [Hl.out]; exact fun g g1 g2 => H3'.out g (by omega) (fun _ => g2)⟩, below_set5 (below_set5 b7 (Nat.le_refl _) (.string (bs E.data)) (.slice p2.a E.cache.length p2.c) (.int .i64 E.fuse) (.bool E.off) (.slice q2.a E.bad.length q2.c)) (by omega) (.string (bs E.data)) (.slice p2.a E.cache.length p2.c) (.int .i64 E.fuse) (.bool E.off) (.slice q2.a E.bad.length q2.c)⟩
  · obtain rfl : i = L.secs.length := by omega
    have Hl := hid (show Pn.lay D L = (X, 0) by
     have := hX.out
     rw [List.take_length] at this
     exact this)
    have m1' : decide (L.secs.length < L.targets.length) = false := by rw [hsl]; simp
    clear hX hsl
    go_wp2_with fail
    have z5 := blk5 (blk_set5 h4 (.string (bs X.data)) (.slice p1.a X.cache.length p1.c) (.int .i64 X.fuse) (.bool X.off) (.slice q1.a X.bad.length q1.c))
    refine bodyPost_ret (v := .tuple #[dval X p1 q1, .int .i64 0]) (by simp [results, Tryz.results53, go_sem, z5]) rfl ?_
    exact ⟨⟨p1, q1, by rw [Hl.out], by rw [Hl.out]; exact h2.off5 (h3 _ (Nat.le_refl _) (fun h => absurd h (by omega))) _ _ _ _ _, by rw [Hl.out]; exact fun g g1 g2 => h3 g (by omega) (fun _ => g2)⟩, below_set5 hb (by omega) _ _ _ _ _⟩
end Go.Proofs.YtlapjkbefkmohaaGreat
