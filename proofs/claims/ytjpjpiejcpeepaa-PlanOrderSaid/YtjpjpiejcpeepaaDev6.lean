/- Package dev: flushed, armed, crashed. -/
import Derived.Test.YtjpjpiejcpeepaaDev5
set_option linter.unusedVariables false
namespace Go.Proofs.Ytjpjpiejcpeepaa
open Go.RowKit Go.Shelf
attribute [local go_sem] bs_mk bs_append bs_extract bs_size bs_toList bs_get

set_option maxRecDepth 100000 in
theorem d_flush_off (D : Dk) (p q : Pl) (w : World) (hD : IsDk w D p q) (h1 : D.off = true) :
    Calls Try.prog 28 #[dval D p q] w fun e w' => RetDk D.flush e w' ∧ Below w.heap.size w w' := by
  have Hw := hid (show D.flush = (D, 12) by simp [Dk.flush, h1])
  go_enter Try.func28, Try.ntmps28
  go_wp2_with fail
  rw [Hw.out]
  refine bodyPost_ret (v := .tuple #[dval D p q, .int .i64 12]) (by simp [results, Try.results28, go_sem, h1]) rfl ?_
  exact ⟨⟨_, _, rfl, hD.below (below_two _ _ _)⟩, below_two _ _ _⟩
set_option maxRecDepth 100000 in
set_option maxHeartbeats 1000000 in
theorem d_flush_fuse (D : Dk) (p q : Pl) (w : World) (hD : IsDk w D p q) (h1 : D.off = false) (h2 : D.fuse = 0) :
    Calls Try.prog 28 #[dval D p q] w fun e w' => RetDk D.flush e w' ∧ Below w.heap.size w w' := by
  have Hw := hid (show D.flush = ({ D with off := true }, 12) by simp [Dk.flush, h1, h2])
  obtain ⟨A1, c1⟩ := p
  obtain ⟨A2, c2⟩ := q
  have hbn := fun W => d_burn0 D ⟨A1, c1⟩ ⟨A2, c2⟩ W h2
  obtain ⟨data, cache, fuse, off, bad⟩ := D
  simp only at h1 h2
  subst h1 h2
  go_enter Try.func28, Try.ntmps28
  go_wp2_with (go_at_call 60; refine (hbn _).mono ?_; rintro e w2 ⟨rfl, hb2⟩; obtain ⟨b0, b1⟩ := blk_two hb2; have s2 : w.heap.size + 1 + 1 ≤ w2.heap.size := (by simpa using hb2.size); have ne1 : ¬ (w2.heap.size = w.heap.size + 1) := (by omega); have ne2 : ¬ (w.heap.size + 1 = w2.heap.size) := (by omega); have b12 := b1.alloc (.cells #[.string (bs data), .slice A1 cache.length c1, .int .i64 0, .bool true, .slice A2 bad.length c2] 25); have y12 := blk5 b12; have f12 := b12.frozen; have hW := (bt (below_two _ _ _) hb2).alloc (by omega) (.cells #[.string (bs data), .slice A1 cache.length c1, .int .i64 0, .bool true, .slice A2 bad.length c2] 25))
  rw [Hw.out]
  have z1 := blk_set5 b12 (.string (bs data)) (.slice A1 cache.length c1) (.int .i64 0) (.bool true) (.slice A2 bad.length c2)
  have hb := below_set5 hW (g := w.heap.size + 1) (by omega) (.string (bs data)) (.slice A1 cache.length c1) (.int .i64 0) (.bool true) (.slice A2 bad.length c2)
  have z2 := blk5 z1
  refine bodyPost_ret (v := .tuple #[dval ⟨data, cache, 0, true, bad⟩ ⟨A1, c1⟩ ⟨A2, c2⟩, .int .i64 12]) (by simp [results, Try.results28, go_sem, z2]) rfl ?_
  exact ⟨⟨_, _, rfl, (hD.setOff true).below hb⟩, hb⟩
set_option maxRecDepth 100000 in
set_option maxHeartbeats 2000000 in
theorem d_flush_ok (D : Dk) (p q : Pl) (w : World) (hD : IsDk w D p q) (hf : D.fit = true) (h1 : D.off = false) (h2 : D.fuse ≠ 0) :
    Calls Try.prog 28 #[dval D p q] w fun e w' => RetDk D.flush e w' ∧ Below w.heap.size w w' := by
  have Hw := hid (show D.flush = (({ D with data := D.last fun _ => true, cache := [] } : Dk).burnt, 0) by simp [Dk.flush, h1, h2])
  have hll := Dk.lastN_length hf (fun _ => true) D.cache.length
  obtain ⟨f1, f2, f3, _⟩ := Dk.fit_parts hf
  obtain ⟨A1, c1⟩ := p
  obtain ⟨A2, c2⟩ := q
  have hlast := fun (W : World) (hW : IsDk W D ⟨A1, c1⟩ ⟨A2, c2⟩) => d_lasting_all D ⟨A1, c1⟩ ⟨A2, c2⟩ W hW hf
  have hbn := fun W => d_burn D ⟨A1, c1⟩ ⟨A2, c2⟩ W h2 hD.fuse.2
  change (D.last fun _ => true).length = _ at hll
  generalize (D.last fun _ => true) = L at *
  have hL : L.length ≤ 140737488355328 := by have := hD.data; omega
  clear f1 f2 f3 hll hf h2
  obtain ⟨data, cache, fuse, off, bad⟩ := D
  simp only at h1
  subst h1
  obtain ⟨F, hF⟩ : ∃ F, F = if 0 < fuse then fuse - 1 else fuse := ⟨_, rfl⟩
  have hF2 : -9223372036854775808 ≤ F ∧ F ≤ 9223372036854775807 := by have := hD.fuse; simp only at this; rw [hF]; split <;> omega
  rw [show (⟨data, cache, fuse, false, bad⟩ : Dk).burnt = ⟨data, cache, F, false, bad⟩ by rw [hF]; rfl] at hbn
  rw [show (⟨L, [], fuse, false, bad⟩ : Dk).burnt = ⟨L, [], F, false, bad⟩ by rw [hF]; rfl] at Hw
  clear hF
  go_enter Try.func28, Try.ntmps28
  go_wp2_with (first | (go_at_call 60; refine (hbn _).mono ?_; rintro e w2 ⟨rfl, hb2⟩; obtain ⟨b0, b1⟩ := blk_two hb2; have s2 : w.heap.size + 1 + 1 ≤ w2.heap.size := (by simpa using hb2.size); have ne1 : ¬ (w2.heap.size = w.heap.size + 1) := (by omega); have ne2 : ¬ (w.heap.size + 1 = w2.heap.size) := (by omega); have b02 := b0.alloc (.cells #[.string (bs data), .slice A1 cache.length c1, .int .i64 F, .bool false, .slice A2 bad.length c2] 25); have b12 := b1.alloc (.cells #[.string (bs data), .slice A1 cache.length c1, .int .i64 F, .bool false, .slice A2 bad.length c2] 25); have b22 := Blk.new w2 25 #[.string (bs data), .slice A1 cache.length c1, .int .i64 F, .bool false, .slice A2 bad.length c2]; have y02 := blk5 b02; have y12 := blk5 b12; have f12 := b12.frozen; have hW := (bt (below_two _ _ _) hb2).alloc (by omega) (.cells #[.string (bs data), .slice A1 cache.length c1, .int .i64 F, .bool false, .slice A2 bad.length c2] 25)) | (go_at_call 57; refine (hlast _ (hD.below hW)).mono ?_; rintro e w3 ⟨rfl, hb3⟩; have b13 := b12.below hb3 b12.lt; have b23 := b22.below hb3 b22.lt; have y13 := blk5 b13; have y23 := blk5 b23; have f13 := b13.frozen; have f23 := b23.frozen; have hX := bt hW hb3))
  rw [Hw.out]
  have hX2 := (hX.setCell (p := ⟨w2.heap.size, 0, none⟩) (by simp; omega) (.string (bs L))).setCell (p := ⟨w2.heap.size, 1, none⟩) (by simp; omega) (.slice none 0 0)
  have b14 := (b13.other (a := ⟨w2.heap.size, 0, none⟩) (by simp; omega) (.string (bs L))).other (a := ⟨w2.heap.size, 1, none⟩) (by simp; omega) (.slice none 0 0)
  have z1 := blk_set5 b14 (.string (bs L)) (.slice none 0 0) (.int .i64 F) (.bool false) (.slice A2 bad.length c2)
  have hb := below_set5 hX2 (g := w.heap.size + 1) (by omega) (.string (bs L)) (.slice none 0 0) (.int .i64 F) (.bool false) (.slice A2 bad.length c2)
  have z2 := blk5 z1
  refine bodyPost_ret (v := .tuple #[dval ⟨L, [], F, false, bad⟩ ⟨none, 0⟩ ⟨A2, c2⟩, .int .i64 0]) (by simp [results, Try.results28, go_sem, z2]) rfl ?_
  exact ⟨⟨_, _, rfl, ((hD.flushed hL).setFuse hF2).below hb⟩, hb⟩
theorem d_flush (D : Dk) (p q : Pl) (w : World) (hD : IsDk w D p q) (hf : D.fit = true) :
    Calls Try.prog 28 #[dval D p q] w fun e w' => RetDk D.flush e w' ∧ Below w.heap.size w w' := by
  cases h1 : D.off with
  | true => exact d_flush_off D p q w hD h1
  | false =>
    by_cases h2 : D.fuse = 0
    · exact d_flush_fuse D p q w hD h1 h2
    · exact d_flush_ok D p q w hD hf h1 h2
set_option maxRecDepth 100000 in
theorem d_arm (D : Dk) (p q : Pl) (w : World) (hD : IsDk w D p q) (n : Int) (hn : -9223372036854775808 ≤ n ∧ n ≤ 9223372036854775807) :
    Calls Try.prog 46 #[dval D p q, .int .i64 n] w fun e w' => (e = .returned (dval (D.arm n) p q) ∧ IsDk w' (D.arm n) p q) ∧ Below w.heap.size w w' := by
  have Hw := hid (show D.arm n = { D with fuse := max n (-1) } from rfl)
  obtain ⟨A1, c1⟩ := p
  obtain ⟨A2, c2⟩ := q
  obtain ⟨data, cache, fuse, off, bad⟩ := D
  go_enter Try.func46, Try.ntmps46
  go_wp2_with fail
  rw [Hw.out]
  refine bodyPost_ret (v := dval ⟨data, cache, max n (-1), off, bad⟩ ⟨A1, c1⟩ ⟨A2, c2⟩) (by simp [results, Try.results46, go_sem]) rfl ?_
  exact ⟨⟨rfl, (hD.setFuse (n := max n (-1)) (by omega)).below (below_two _ _ _)⟩, below_two _ _ _⟩
theorem blk_three {w w1 : World} {t u v : TypeId} {cs ds es : Array Value} (hb : Below (((w.alloc (.cells cs t)).alloc (.cells ds u)).alloc (.cells es v)).heap.size (((w.alloc (.cells cs t)).alloc (.cells ds u)).alloc (.cells es v)) w1) :
    Blk w1 w.heap.size t cs ∧ Blk w1 (w.heap.size + 1) u ds ∧ Blk w1 (w.heap.size + 1 + 1) v es := by
  refine ⟨(((Blk.new w t cs).alloc _).alloc _).below hb (by simp; omega), ?_, ?_⟩
  · have := Blk.new (w.alloc (.cells cs t)) u ds
    rw [World.size_alloc] at this
    exact (this.alloc _).below hb (by simp)
  · have := Blk.new ((w.alloc (.cells cs t)).alloc (.cells ds u)) v es
    simp only [World.size_alloc] at this
    exact this.below hb (by simp)
theorem below_three (w : World) (a b c : Obj) : Below w.heap.size w (((w.alloc a).alloc b).alloc c) := (below_two w a b).alloc (by simp; omega) c
set_option maxRecDepth 100000 in
set_option maxHeartbeats 1000000 in
theorem d_crash_at (D : Dk) (p q : Pl) (w : World) (hD : IsDk w D p q) (hf : D.fit = true) (ks : List Bool) (A3 : Option Addr) (c3 : Nat) (hk : Cells w A3 (boolCells ks)) (hkl : ks.length ≤ 9223372036854775807) :
    Calls Try.prog 22 #[dval D p q, .slice A3 ks.length c3] w fun e w' => (e = .returned (dval (D.crash fun i => ks.getD i false) ⟨none, 0⟩ q) ∧ IsDk w' (D.crash fun i => ks.getD i false) ⟨none, 0⟩ q) ∧ Below w.heap.size w w' := by
  have hll := Dk.lastN_length hf (fun i => ks.getD i false) D.cache.length
  obtain ⟨f1, f2, f3, _⟩ := Dk.fit_parts hf
  obtain ⟨A1, c1⟩ := p
  obtain ⟨A2, c2⟩ := q
  have hlast := fun (W : World) (B : Nat) (t : TypeId) (hW : IsDk W D ⟨A1, c1⟩ ⟨A2, c2⟩) (hB : Below w.heap.size w W) (hb : Blk W B t #[.slice A3 ks.length c3]) => d_lasting_kept D ⟨A1, c1⟩ ⟨A2, c2⟩ W hW hf ks A3 c3 B t hb (hk.below hB) hkl
  have Hw := hid (show (D.crash fun i => ks.getD i false) = { D with data := D.last fun i => ks.getD i false, cache := [], fuse := -1, off := false } from rfl)
  change (D.last fun i => ks.getD i false).length = _ at hll
  generalize (D.last fun i => ks.getD i false) = L at *
  have hL : L.length ≤ 140737488355328 := by have := hD.data; omega
  clear f1 f2 f3 hll hf
  go_enter Try.func22, Try.ntmps22
  have hbk := (Blk.new (w.alloc (.cells #[.string (bs D.data), .slice A1 D.cache.length c1, .int .i64 D.fuse, .bool D.off, .slice A2 D.bad.length c2] 25)) 40 #[.slice A3 ks.length c3]).alloc (.cells #[.string (bs []), .slice none 0 0, .int .i64 0, .bool false, .slice none 0 0] 25)
  rw [World.size_alloc] at hbk
  go_wp2_with (go_at_call 57; refine (hlast _ (w.heap.size + 1) 40 (hD.below (below_three _ _ _ _)) (below_three _ _ _ _) hbk).mono ?_; rintro e w1 ⟨rfl, hb1⟩; obtain ⟨b0, b1, b2⟩ := blk_three hb1; have y0 := blk5 b0; have y1 := blk5 b2; have y2 := b2.frozen; have y3 := b0.frozen)
  rw [Hw.out]
  have b1' := (((b2.other (a := ⟨w.heap.size, 0, none⟩) (show w.heap.size + 1 + 1 ≠ w.heap.size by omega) (.string (bs L))).other (a := ⟨w.heap.size, 1, none⟩) (show w.heap.size + 1 + 1 ≠ w.heap.size by omega) (.slice none 0 0)).other (a := ⟨w.heap.size, 2, none⟩) (show w.heap.size + 1 + 1 ≠ w.heap.size by omega) (.int .i64 (-1))).other (a := ⟨w.heap.size, 3, none⟩) (show w.heap.size + 1 + 1 ≠ w.heap.size by omega) (.bool false)
  have hb' := ((((bt (below_three _ _ _ _) hb1).setCell (p := ⟨w.heap.size, 0, none⟩) (Nat.le_refl _) (.string (bs L))).setCell (p := ⟨w.heap.size, 1, none⟩) (Nat.le_refl _) (.slice none 0 0)).setCell (p := ⟨w.heap.size, 2, none⟩) (Nat.le_refl _) (.int .i64 (-1))).setCell (p := ⟨w.heap.size, 3, none⟩) (Nat.le_refl _) (.bool false)
  have z1 := blk_set5 b1' (.string (bs L)) (.slice none 0 0) (.int .i64 (-1)) (.bool false) (.slice A2 D.bad.length c2)
  have hb := below_set5 hb' (g := w.heap.size + 1 + 1) (by omega) (.string (bs L)) (.slice none 0 0) (.int .i64 (-1)) (.bool false) (.slice A2 D.bad.length c2)
  have z2 := blk5 z1
  refine bodyPost_ret (v := dval ⟨L, [], -1, false, D.bad⟩ ⟨none, 0⟩ ⟨A2, c2⟩) (by simp [results, Try.results22, go_sem, z2]) rfl ?_
  exact ⟨⟨rfl, (((hD.flushed hL).setFuse (n := -1) (by omega)).setOff false).below hb⟩, hb⟩
theorem d_crash (D : Dk) (p q : Pl) (w : World) (hD : IsDk w D p q) (hf : D.fit = true) (ks : List Bool) (A3 : Option Addr) (c3 : Nat) (hk : Cells w A3 (boolCells ks)) (hkl : ks.length ≤ 9223372036854775807) :
    Calls Try.prog 22 #[dval D p q, .slice A3 ks.length c3] w fun e w' => (∃ p' q', e = .returned (dval (D.crash fun i => ks.getD i false) p' q') ∧ IsDk w' (D.crash fun i => ks.getD i false) p' q') ∧ Below w.heap.size w w' :=
  (d_crash_at D p q w hD hf ks A3 c3 hk hkl).mono fun _ _ ⟨⟨h1, h2⟩, h3⟩ => ⟨⟨_, _, h1, h2⟩, h3⟩
end Go.Proofs.Ytjpjpiejcpeepaa
