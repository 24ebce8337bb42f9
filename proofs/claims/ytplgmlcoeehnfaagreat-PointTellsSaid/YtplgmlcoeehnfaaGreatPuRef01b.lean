/- The document's own answers for devices (package cofferdamref01): the rest. The document's own answers for devices (package cofferdamref01): what is read, flushed, crashed, new. -/
import Derived.Test.YtplgmlcoeehnfaaGreatPuRef01
import Derived.Lib.ConvBytes
import Derived.Lib.LazyBuf
import Derived.StillTailTactics
import Derived.Test.YtplgmlcoeehnfaaGreatPuPlain1
set_option linter.unusedVariables false
namespace Go.Proofs.YtplgmlcoeehnfaaGreat
open Go.RowKit Go.Shelf
attribute [local go_sem] bs_mk bs_append bs_extract bs_size bs_toList bs_get

theorem r1_burnt (D : Dk) (p q : Pl) (hf : -9223372036854775808 ≤ D.fuse ∧ D.fuse ≤ 9223372036854775807) (w : World) :
    Calls Tryz.prog 147 #[dval D p q] w fun e w' => e = .returned (dval D.burnt p q) ∧ Below w.heap.size w w' := by
  obtain ⟨h1, h2⟩ := hf
  by_cases h : 0 < D.fuse
  · have Hb := hid (show D.burnt = { D with fuse := D.fuse - 1 } by simp [Dk.burnt, h])
    go_enter Tryz.func147, Tryz.ntmps147
    go_wp2_with fail
    rw [Hb.out]
    refine bodyPost_ret (v := dval { D with fuse := D.fuse - 1 } p q) (by simp [results, Tryz.results147, go_sem]) rfl ⟨rfl, below_two _ _ _⟩
  · have Hb := hid (show D.burnt = D by simp [Dk.burnt, h])
    go_enter Tryz.func147, Tryz.ntmps147
    go_wp2_with fail
    rw [Hb.out]
    refine bodyPost_ret (v := dval D p q) (by simp [results, Tryz.results147, go_sem]) rfl ⟨rfl, below_two _ _ _⟩
theorem Tryz.infoPut : (Tryz.prog.info? 163).map (fun i => (i.zero, i.size, i.bytes)) = some (some (.agg #[.int .i64 0, .string ⟨#[]⟩]), 2, 24) := by kernel_rfl
theorem r1_write_off (D : Dk) (p q : Pl) (w : World) (hD : IsDk w D p q) (k : Int) (s : List UInt8) (hs : s.length ≤ 9223372036854775807) (h1 : D.off = true) :
    Calls Tryz.prog 83 #[dval D p q, .int .i64 k, .string (bs s)] w fun e w' => RetDkN w.heap.size D p q (D.write k s) e w' ∧ Below w.heap.size w w' := by
  have Hw := hid (show D.write k s = (D, 12) by simp [Dk.write, h1])
  obtain ⟨A1, c1⟩ := p
  obtain ⟨A2, c2⟩ := q
  go_enter Tryz.func83, Tryz.ntmps83
  go_wp2_with fail
  rw [Hw.out]
  refine bodyPost_ret (v := .tuple #[dval D ⟨A1, c1⟩ ⟨A2, c2⟩, .int .i64 12]) (by simp [results, Tryz.results83, go_sem, h1]) rfl ?_
  exact ⟨⟨_, _, rfl, hD.below (below_two _ _ _), fun _ _ h => h⟩, below_two _ _ _⟩
set_option maxRecDepth 100000 in
set_option maxHeartbeats 1000000 in
theorem r1_write_out (D : Dk) (p q : Pl) (w : World) (hD : IsDk w D p q) (k : Int) (s : List UInt8) (hs : s.length ≤ 9223372036854775807) (h1 : D.off = false) (h2 : D.there k = false) :
    Calls Tryz.prog 83 #[dval D p q, .int .i64 k, .string (bs s)] w fun e w' => RetDkN w.heap.size D p q (D.write k s) e w' ∧ Below w.heap.size w w' := by
  have Hw := hid (show D.write k s = (D, 10) by simp [Dk.write, *])
  obtain ⟨A1, c1⟩ := p
  obtain ⟨A2, c2⟩ := q
  have hdl := hD.data
  have hcl := hD.cl
  have hth := r1_there D ⟨A1, c1⟩ ⟨A2, c2⟩ hD.data k
  rw [h2] at hth
  obtain ⟨data, cache, fuse, off, bad⟩ := D
  simp only at h1 hdl hcl
  subst h1
  clear h2
  go_enter Tryz.func83, Tryz.ntmps83
  go_wp2_with (go_at_call 100; refine (hth _).mono ?_; rintro e w1 ⟨rfl, hb1⟩; obtain ⟨b0, b1⟩ := blk_two hb1; have y0 := blk5 b0; have y1 := blk5 b1; have y2 := b1.frozen; have y3 := b0.frozen)
  rw [Hw.out]
  have z1 := blk_set5 b1 (.string (bs data)) (.slice A1 cache.length c1) (.int .i64 fuse) (.bool false) (.slice A2 bad.length c2)
  have hb := below_set5 (bt (below_two _ _ _) hb1) (g := w.heap.size + 1) (by omega) (.string (bs data)) (.slice A1 cache.length c1) (.int .i64 fuse) (.bool false) (.slice A2 bad.length c2)
  have z2 := blk5 z1
  refine bodyPost_ret (v := .tuple #[dval ⟨data, cache, fuse, false, bad⟩ ⟨A1, c1⟩ ⟨A2, c2⟩, .int .i64 10]) (by simp [results, Tryz.results83, go_sem, z2]) rfl ?_
  exact ⟨⟨_, _, rfl, hD.below hb, fun _ _ h => h⟩, hb⟩
set_option maxRecDepth 100000 in
set_option maxHeartbeats 1000000 in
theorem r1_write_size (D : Dk) (p q : Pl) (w : World) (hD : IsDk w D p q) (k : Int) (s : List UInt8) (hs : s.length ≤ 9223372036854775807) (h1 : D.off = false) (h2 : D.there k = true) (h3 : s.length ≠ 64) :
    Calls Tryz.prog 83 #[dval D p q, .int .i64 k, .string (bs s)] w fun e w' => RetDkN w.heap.size D p q (D.write k s) e w' ∧ Below w.heap.size w w' := by
  have Hw := hid (show D.write k s = (D, 11) by simp [Dk.write, *])
  obtain ⟨A1, c1⟩ := p
  obtain ⟨A2, c2⟩ := q
  have hdl := hD.data
  have hcl := hD.cl
  have hth := r1_there D ⟨A1, c1⟩ ⟨A2, c2⟩ hD.data k
  rw [h2] at hth
  obtain ⟨data, cache, fuse, off, bad⟩ := D
  simp only at h1 hdl hcl
  subst h1
  have hl : ((s.length : Int) != 64) = true := by simp; omega
  clear h2 h3
  go_enter Tryz.func83, Tryz.ntmps83
  go_wp2_with (go_at_call 100; refine (hth _).mono ?_; rintro e w1 ⟨rfl, hb1⟩; obtain ⟨b0, b1⟩ := blk_two hb1; have y0 := blk5 b0; have y1 := blk5 b1; have y2 := b1.frozen; have y3 := b0.frozen)
  rw [Hw.out]
  have z1 := blk_set5 b1 (.string (bs data)) (.slice A1 cache.length c1) (.int .i64 fuse) (.bool false) (.slice A2 bad.length c2)
  have hb := below_set5 (bt (below_two _ _ _) hb1) (g := w.heap.size + 1) (by omega) (.string (bs data)) (.slice A1 cache.length c1) (.int .i64 fuse) (.bool false) (.slice A2 bad.length c2)
  have z2 := blk5 z1
  refine bodyPost_ret (v := .tuple #[dval ⟨data, cache, fuse, false, bad⟩ ⟨A1, c1⟩ ⟨A2, c2⟩, .int .i64 11]) (by simp [results, Tryz.results83, go_sem, z2]) rfl ?_
  exact ⟨⟨_, _, rfl, hD.below hb, fun _ _ h => h⟩, hb⟩
set_option maxRecDepth 100000 in
set_option maxHeartbeats 1000000 in
theorem r1_write_fuse (D : Dk) (p q : Pl) (w : World) (hD : IsDk w D p q) (k : Int) (s : List UInt8) (hs : s.length ≤ 9223372036854775807) (h1 : D.off = false) (h2 : D.there k = true) (h3 : s.length = 64) (h4 : D.fuse = 0) :
    Calls Tryz.prog 83 #[dval D p q, .int .i64 k, .string (bs s)] w fun e w' => RetDkN w.heap.size D p q (D.write k s) e w' ∧ Below w.heap.size w w' := by
  have Hw := hid (show D.write k s = ({ D with off := true }, 12) by simp [Dk.write, *])
  obtain ⟨A1, c1⟩ := p
  obtain ⟨A2, c2⟩ := q
  have hdl := hD.data
  have hcl := hD.cl
  have hth := r1_there D ⟨A1, c1⟩ ⟨A2, c2⟩ hD.data k
  rw [h2] at hth
  obtain ⟨data, cache, fuse, off, bad⟩ := D
  simp only at h1 hdl hcl h4
  subst h1
  subst h4
  have hl : ((s.length : Int) != 64) = false := by simp; omega
  clear h2 h3
  go_enter Tryz.func83, Tryz.ntmps83
  go_wp2_with (go_at_call 100; refine (hth _).mono ?_; rintro e w1 ⟨rfl, hb1⟩; obtain ⟨b0, b1⟩ := blk_two hb1; have y0 := blk5 b0; have y1 := blk5 b1; have y2 := b1.frozen; have y3 := b0.frozen)
  rw [Hw.out]
  have z1 := blk_set5 (b1.other (a := ⟨w.heap.size, 3, none⟩) (by simp) (.bool true)) (.string (bs data)) (.slice A1 cache.length c1) (.int .i64 0) (.bool true) (.slice A2 bad.length c2)
  have hb := below_set5 ((bt (below_two _ _ _) hb1).setCell (p := ⟨w.heap.size, 3, none⟩) (Nat.le_refl _) (.bool true)) (g := w.heap.size + 1) (by omega) (.string (bs data)) (.slice A1 cache.length c1) (.int .i64 0) (.bool true) (.slice A2 bad.length c2)
  have z2 := blk5 z1
  refine bodyPost_ret (v := .tuple #[dval ⟨data, cache, 0, true, bad⟩ ⟨A1, c1⟩ ⟨A2, c2⟩, .int .i64 12]) (by simp [results, Tryz.results83, go_sem, z2]) rfl ?_
  have hD' := hD.below hb
  exact ⟨⟨_, _, rfl, { hD' with cache := hD'.cache }, fun _ _ h => h⟩, hb⟩
set_option maxRecDepth 100000 in
set_option maxHeartbeats 1000000 in
theorem r1_write_bad (D : Dk) (p q : Pl) (w : World) (hD : IsDk w D p q) (k : Int) (s : List UInt8) (hs : s.length ≤ 9223372036854775807) (h1 : D.off = false) (h2 : D.there k = true) (h3 : s.length = 64) (h4 : D.fuse ≠ 0) (h5 : k ∈ D.bad) :
    Calls Tryz.prog 83 #[dval D p q, .int .i64 k, .string (bs s)] w fun e w' => RetDkN w.heap.size D p q (D.write k s) e w' ∧ Below w.heap.size w w' := by
  have Hw := hid (show D.write k s = (D, 13) by simp [Dk.write, *])
  obtain ⟨A1, c1⟩ := p
  obtain ⟨A2, c2⟩ := q
  have hdl := hD.data
  have hcl := hD.cl
  have hth := r1_there D ⟨A1, c1⟩ ⟨A2, c2⟩ hD.data k
  rw [h2] at hth
  have hbd := fun (W : World) (hW : IsDk W D ⟨A1, c1⟩ ⟨A2, c2⟩) => r1_bad D ⟨A1, c1⟩ ⟨A2, c2⟩ W hW k
  simp only [h5] at hbd
  obtain ⟨data, cache, fuse, off, bad⟩ := D
  simp only at h1 hdl hcl h4
  subst h1
  have hl : ((s.length : Int) != 64) = false := by simp; omega
  have hfz : (fuse == 0) = false := by simpa using h4
  clear h2 h3 h4 h5
  go_enter Tryz.func83, Tryz.ntmps83
  go_wp2_with (first | (go_at_call 100; refine (hth _).mono ?_; rintro e w1 ⟨rfl, hb1⟩; obtain ⟨b0, b1⟩ := blk_two hb1; have y0 := blk5 b0; have y1 := blk5 b1; have y2 := b1.frozen; have y3 := b0.frozen) | (go_at_call 149; refine (hbd _ (hD.below (bt (below_two _ _ _) hb1))).mono ?_; rintro e w2 ⟨rfl, hb2⟩; have b02 := b0.below hb2 b0.lt; have b12 := b1.below hb2 b1.lt; have y02 := blk5 b02; have y12 := blk5 b12; have y22 := b12.frozen; have y32 := b02.frozen))
  rw [Hw.out]
  have z1 := blk_set5 b12 (.string (bs data)) (.slice A1 cache.length c1) (.int .i64 fuse) (.bool false) (.slice A2 bad.length c2)
  have hb := below_set5 (bt (bt (below_two _ _ _) hb1) hb2) (g := w.heap.size + 1) (by omega) (.string (bs data)) (.slice A1 cache.length c1) (.int .i64 fuse) (.bool false) (.slice A2 bad.length c2)
  have z2 := blk5 z1
  refine bodyPost_ret (v := .tuple #[dval ⟨data, cache, fuse, false, bad⟩ ⟨A1, c1⟩ ⟨A2, c2⟩, .int .i64 13]) (by simp [results, Tryz.results83, go_sem, z2]) rfl ?_
  exact ⟨⟨_, _, rfl, hD.below hb, fun _ _ h => h⟩, hb⟩
set_option maxRecDepth 100000 in
set_option maxHeartbeats 1000000 in
theorem r1_write_many (D : Dk) (p q : Pl) (w : World) (hD : IsDk w D p q) (k : Int) (s : List UInt8) (hs : s.length ≤ 9223372036854775807) (h1 : D.off = false) (h2 : D.there k = true) (h3 : s.length = 64) (h4 : D.fuse ≠ 0) (h5 : k ∉ D.bad) (h6 : 4096 ≤ D.cache.length) :
    Calls Tryz.prog 83 #[dval D p q, .int .i64 k, .string (bs s)] w fun e w' => RetDkN w.heap.size D p q (D.write k s) e w' ∧ Below w.heap.size w w' := by
  have Hw := hid (show D.write k s = (D, 16) by simp [Dk.write, *])
  obtain ⟨A1, c1⟩ := p
  obtain ⟨A2, c2⟩ := q
  have hdl := hD.data
  have hcl := hD.cl
  have hth := r1_there D ⟨A1, c1⟩ ⟨A2, c2⟩ hD.data k
  rw [h2] at hth
  have hbd := fun (W : World) (hW : IsDk W D ⟨A1, c1⟩ ⟨A2, c2⟩) => r1_bad D ⟨A1, c1⟩ ⟨A2, c2⟩ W hW k
  simp only [h5] at hbd
  obtain ⟨data, cache, fuse, off, bad⟩ := D
  simp only at h1 hdl hcl h4 h6
  subst h1
  have hl : ((s.length : Int) != 64) = false := by simp; omega
  have hfz : (fuse == 0) = false := by simpa using h4
  clear h2 h3 h4 h5
  go_enter Tryz.func83, Tryz.ntmps83
  go_wp2_with (first | (go_at_call 100; refine (hth _).mono ?_; rintro e w1 ⟨rfl, hb1⟩; obtain ⟨b0, b1⟩ := blk_two hb1; have y0 := blk5 b0; have y1 := blk5 b1; have y2 := b1.frozen; have y3 := b0.frozen) | (go_at_call 149; refine (hbd _ (hD.below (bt (below_two _ _ _) hb1))).mono ?_; rintro e w2 ⟨rfl, hb2⟩; have b02 := b0.below hb2 b0.lt; have b12 := b1.below hb2 b1.lt; have y02 := blk5 b02; have y12 := blk5 b12; have y22 := b12.frozen; have y32 := b02.frozen))
  rw [Hw.out]
  have z1 := blk_set5 b12 (.string (bs data)) (.slice A1 cache.length c1) (.int .i64 fuse) (.bool false) (.slice A2 bad.length c2)
  have hb := below_set5 (bt (bt (below_two _ _ _) hb1) hb2) (g := w.heap.size + 1) (by omega) (.string (bs data)) (.slice A1 cache.length c1) (.int .i64 fuse) (.bool false) (.slice A2 bad.length c2)
  have z2 := blk5 z1
  refine bodyPost_ret (v := .tuple #[dval ⟨data, cache, fuse, false, bad⟩ ⟨A1, c1⟩ ⟨A2, c2⟩, .int .i64 16]) (by simp [results, Tryz.results83, go_sem, z2]) rfl ?_
  exact ⟨⟨_, _, rfl, hD.below hb, fun _ _ h => h⟩, hb⟩
set_option maxRecDepth 100000 in
set_option maxHeartbeats 1000000 in
theorem r1_write_ok (D : Dk) (p q : Pl) (w : World) (hD : IsDk w D p q) (k : Int) (hk : -9223372036854775808 ≤ k ∧ k ≤ 9223372036854775807) (s : List UInt8) (hs : s.length ≤ 9223372036854775807) (h1 : D.off = false) (h2 : D.there k = true) (h3 : s.length = 64) (h4 : D.fuse ≠ 0) (h5 : k ∉ D.bad) (h6 : D.cache.length < 4096) :
    Calls Tryz.prog 83 #[dval D p q, .int .i64 k, .string (bs s)] w fun e w' => RetDkN w.heap.size D p q (D.write k s) e w' ∧ Below w.heap.size w w' := by
  have Hw := hid (show D.write k s = (({ D with cache := D.cache ++ [(k, s)] } : Dk).burnt, 0) by simp [Dk.write, h1, h2, h3, h4, h5]; omega)
  obtain ⟨A1, c1⟩ := p
  obtain ⟨A2, c2⟩ := q
  have hdl := hD.data
  have hcl := hD.cl
  have hth := r1_there D ⟨A1, c1⟩ ⟨A2, c2⟩ hD.data k
  rw [h2] at hth
  have hbd := fun (W : World) (hW : IsDk W D ⟨A1, c1⟩ ⟨A2, c2⟩) => r1_bad D ⟨A1, c1⟩ ⟨A2, c2⟩ W hW k
  simp only [h5] at hbd
  obtain ⟨data, cache, fuse, off, bad⟩ := D
  simp only at h1 hdl hcl h4 h6
  subst h1
  have hl : ((s.length : Int) != 64) = false := by simp; omega
  have hfz : (fuse == 0) = false := by simpa using h4
  clear h2 h3 h4 h5
  go_enter Tryz.func83, Tryz.ntmps83
  obtain ⟨i0, hi, hz0, hz1, hz2⟩ := info_parts Tryz.infoPut
  go_wp2_with (first | (go_at_call 100; refine (hth _).mono ?_; rintro e w1 ⟨rfl, hb1⟩; obtain ⟨b0, b1⟩ := blk_two hb1; have y0 := blk5 b0; have y1 := blk5 b1; have y2 := b1.frozen; have y3 := b0.frozen) | (go_at_call 149; refine (hbd _ (hD.below (bt (below_two _ _ _) hb1))).mono ?_; rintro e w2 ⟨rfl, hb2⟩; have b02 := b0.below hb2 b0.lt; have b12 := b1.below hb2 b1.lt; have y02 := blk5 b02; have y12 := blk5 b12; have y22 := b12.frozen; have y32 := b02.frozen) | (at_builtin; refine wpList_app rfl (.tmp 35) (.tmp 37) 22 rfl w2.heap.size 163 i0 (.agg #[.int .i64 0, .string ⟨#[]⟩]) 2 24 Tryz.underlying22 hi hz0 hz1 hz2 rfl (by decide) _ 0 [] rfl (World.ownsRow_nil _ _ _ _) A1 cache.length c1 (putCells cache) rfl ((hD.below (bt (bt (below_two _ _ _) hb1) hb2)).cache) (putCells_length _) hD.pn (one_puts _) (by unfold maxLen; omega) (by omega) (Nat.le_refl _) ?_; intro v1 w3 hown1 hbl1; rw [Nat.zero_add, List.nil_append] at hown1; obtain ⟨V1, C1, hv1, hv2, hv3, hv4⟩ := own_slice hown1; rw [hv1]; rw [hv1] at hown1; clear hv1) | (at_builtin; refine wpList_app rfl (.tmp 39) (.tmp 43) 22 rfl w2.heap.size 163 i0 (.agg #[.int .i64 0, .string ⟨#[]⟩]) 2 24 Tryz.underlying22 hi hz0 hz1 hz2 rfl (by decide) _ cache.length (putCells cache) rfl (hown1.alloc _) (some ⟨w3.heap.size, 0, none⟩) 1 1 [.int .i64 k, .string (bs s)] rfl (cells_new _ _ _) rfl (fun h => by cases h) (by simp [Value.oneCell']) (by unfold maxLen; omega) (by omega) (by have := hbl1.size; simp; omega) ?_; intro v2 w4 hown2 hbl2; obtain ⟨V2, C2, hw1, hw2, hw3, hw4⟩ := own_slice hown2; rw [hw1]; rw [hw1] at hown2; clear hw1; have b04 := ((b02.below hbl1 (by have := b02.lt; omega)).alloc (.cells #[.int .i64 k, .string (bs s)] 163)).below hbl2 (by have := b02.lt; omega); have b14 := ((b12.below hbl1 (by have := b12.lt; omega)).alloc (.cells #[.int .i64 k, .string (bs s)] 163)).below hbl2 (by have := b12.lt; omega); have y04 := blk5 b04; have y14 := blk5 b14; have y24 := b14.frozen; have y34 := b04.frozen))
  have hbn := r1_burnt ⟨data, cache ++ [(k, s)], fuse, false, bad⟩ ⟨V2, C2⟩ ⟨A2, c2⟩ hD.fuse
  obtain ⟨F, hF⟩ : ∃ F, F = if 0 < fuse then fuse - 1 else fuse := ⟨_, rfl⟩
  have hF2 : -9223372036854775808 ≤ F ∧ F ≤ 9223372036854775807 := by have := hD.fuse; simp only at this; rw [hF]; split <;> omega
  rw [show (⟨data, cache ++ [(k, s)], fuse, false, bad⟩ : Dk).burnt = ⟨data, cache ++ [(k, s)], F, false, bad⟩ by rw [hF]; rfl] at hbn Hw
  clear hF
  simp only [dval, List.length_append, List.length_singleton] at hbn
  refine (hbn _).mono ?_
  rintro e w5 ⟨rfl, hb5⟩
  have b15 := (b14.other (a := ⟨w.heap.size, 1, none⟩) (by simp) (.slice V2 (cache.length + 1) C2)).below hb5 (by have := b14.lt; simpa using this)
  have y15 := blk5 b15
  have y25 := b15.frozen
  have hb4 := bt (bt (below_two _ _ _) hb1) hb2
  have hb5' : Below w.heap.size w w5 := by
    refine Below.trans ?_ (hb5.mono (by have := hbl1.size; have := hbl2.size; have := hb4.size; simp at *; omega))
    refine Below.setCell (p := ⟨w.heap.size, 1, none⟩) ?_ (Nat.le_refl _) _
    exact ((hb4.trans (hbl1.mono hb4.size)).alloc (by have := hbl1.size; have := hb4.size; omega) _).trans (hbl2.mono hb4.size)
  go_wp2_with fail
  rw [Hw.out]
  have z1 := blk_set5 b15 (.string (bs data)) (.slice V2 (cache.length + 1) C2) (.int .i64 F) (.bool false) (.slice A2 bad.length c2)
  have hb := below_set5 hb5' (g := w.heap.size + 1) (by omega) (.string (bs data)) (.slice V2 (cache.length + 1) C2) (.int .i64 F) (.bool false) (.slice A2 bad.length c2)
  have z2 := blk5 z1
  refine bodyPost_ret (v := .tuple #[dval ⟨data, cache ++ [(k, s)], F, false, bad⟩ ⟨V2, C2⟩ ⟨A2, c2⟩, .int .i64 0]) (by simp [results, Tryz.results83, go_sem, z2]) rfl ?_
  have hD' := hD.below hb
  refine ⟨⟨⟨V2, C2⟩, ⟨A2, c2⟩, rfl, { hD' with cache := ?_, pn := hw4, pc := by simpa using hw2, pm := hw3, cl := by simp; omega, fuse := hF2, strs := ?_, ats := ?_ }, fun g hg h => ⟨by have := off_own (g := g) hown2 (by have := b12.lt; omega); simpa using this, h.2⟩⟩, hb⟩
  · have hc := Cells.of_own hown2
    have e0 : putCells cache ++ [.int .i64 k, .string (bs s)] = putCells (cache ++ [(k, s)]) := by simp [putCells]
    rw [e0] at hc
    have q0 := own_beyond hown2 b02.lt
    have q1 := own_beyond hown2 b12.lt
    exact ((hc.setCell (p := ⟨w.heap.size, 1, none⟩) q0 _).below hb5).set5 q1 _ _ _ _ _
  · intro x hx
    rcases List.mem_append.1 hx with h | h
    · exact hD.strs x h
    · simp at h; subst h; exact hs
  · intro x hx
    rcases List.mem_append.1 hx with h | h
    · exact hD.ats x h
    · simp at h; subst h; exact hk
theorem r1_write_n (D : Dk) (p q : Pl) (w : World) (hD : IsDk w D p q) (k : Int) (hk : -9223372036854775808 ≤ k ∧ k ≤ 9223372036854775807) (s : List UInt8) (hs : s.length ≤ 9223372036854775807) :
    Calls Tryz.prog 83 #[dval D p q, .int .i64 k, .string (bs s)] w fun e w' => RetDkN w.heap.size D p q (D.write k s) e w' ∧ Below w.heap.size w w' := by
  cases h1 : D.off with
  | true => exact r1_write_off D p q w hD k s hs h1
  | false =>
    cases h2 : D.there k with
    | false => exact r1_write_out D p q w hD k s hs h1 h2
    | true =>
      by_cases h3 : s.length = 64
      · by_cases h4 : D.fuse = 0
        · exact r1_write_fuse D p q w hD k s hs h1 h2 h3 h4
        · by_cases h5 : k ∈ D.bad
          · exact r1_write_bad D p q w hD k s hs h1 h2 h3 h4 h5
          · by_cases h6 : 4096 ≤ D.cache.length
            · exact r1_write_many D p q w hD k s hs h1 h2 h3 h4 h5 h6
            · exact r1_write_ok D p q w hD k hk s hs h1 h2 h3 h4 h5 (by omega)
      · exact r1_write_size D p q w hD k s hs h1 h2 h3
end Go.Proofs.YtplgmlcoeehnfaaGreat
set_option linter.unusedVariables false
namespace Go.Proofs.YtplgmlcoeehnfaaGreat
open Go.RowKit Go.Shelf
attribute [local go_sem] bs_mk bs_append bs_extract bs_size bs_toList bs_get

set_option maxHeartbeats 400000 in
theorem r1_sees (D : Dk) (p q : Pl) (w : World) (hD : IsDk w D p q) (k : Int) (hk : D.there k = true) (hl : D.data.length = D.sz * 64) :
    Calls Tryz.prog 53 #[dval D p q, .int .i64 k] w fun e w' => e = .returned (.string (bs (D.sees k))) ∧ Below w.heap.size w w' := by
  obtain ⟨A1, c1⟩ := p
  obtain ⟨A2, c2⟩ := q
  have hcl := hD.cl
  have hdl := hD.data
  have hk' : 0 ≤ k ∧ k < D.sz := by simpa [Dk.there] using hk
  obtain ⟨k, rfl⟩ := Int.eq_ofNat_of_zero_le hk'.1
  have hks : k * 64 + 64 ≤ D.data.length := by rw [hl]; omega
  clear hk hk'
  have Hl := hid hl; clear hl
  have hb := (Below.refl w.heap.size w).alloc (Nat.le_refl _) (.cells #[.string (bs D.data), .slice A1 D.cache.length c1, .int .i64 D.fuse, .bool D.off, .slice A2 D.bad.length c2] 25)
  have hbx := Blk.new w 25 #[.string (bs D.data), .slice A1 D.cache.length c1, .int .i64 D.fuse, .bool D.off, .slice A2 D.bad.length c2]
  go_enter Tryz.func53, Tryz.ntmps53
  go_wp2_with fail
  go_loopw [5] (fun x W => ∃ n : Nat, n ≤ D.cache.length ∧ x = .int .i64 ((n : Int) - 1) ∧ Hid (∀ j (hj : j < D.cache.length), n ≤ j → D.cache[j].1 ≠ k) ∧
      Blk W w.heap.size 25 #[.string (bs D.data), .slice A1 D.cache.length c1, .int .i64 D.fuse, .bool D.off, .slice A2 D.bad.length c2] ∧ Below w.heap.size w W) (fun x _ => (intOf x + 1).toNat)
  case atStart => exact ⟨D.cache.length, Nat.le_refl _, rfl, hid (fun j hj h0 => by omega), hbx, hb⟩
  case round =>
    clear hbx hb
    obtain ⟨n, hn, rfl, hok, hbx, hb⟩ := hrel
    have k0 := blk5 hbx
    by_cases hlt : 0 < n
    · obtain ⟨pb, po, hpa, hcell⟩ := (hD.below hb).cache.put (i := n - 1) (by omega)
      simp only at hpa
      subst hpa
      obtain ⟨x0, x1⟩ := hcell (n - 1) (by omega)
      clear hcell
      have hat := hD.ats _ (List.getElem_mem (show n - 1 < D.cache.length by omega))
      by_cases he : (D.cache[n - 1]'(by omega)).1 = k
      · have he' : ((D.cache[n - 1]'(by omega)).1 == (k : Int)) = true := by simpa using he
        have Hs := hid (show D.sees k = (D.cache[n - 1]'(by omega)).2 by
          rw [Dk.sees, Dk.seesIn_some (show n - 1 < D.cache.length by omega) he (fun j hj hij => hok.out j hj (by omega))]; rfl)
        clear he
        go_wp2_with fail
        go_ret
        exact ⟨by rw [Hs.out]; rfl, hb⟩
      · have he' : ((D.cache[n - 1]'(by omega)).1 == (k : Int)) = false := by simpa using he
        have He := hid he; clear he
        go_wp2_with fail
        go_roundw
        case rel => exact ⟨n - 1, by omega, ret_num (by omega), hid (fun j hj hji => by
          rcases Nat.lt_or_ge j n with h' | h'
          · obtain rfl : j = n - 1 := by omega
            exact He.out
          · exact hok.out j hj h'), hbx, hb⟩
        case measure => simp [intOf]; omega
    · obtain rfl : n = 0 := by omega
      have Hs := hid (show D.sees k = D.sector k by rw [Dk.sees, Dk.seesIn_none (fun j hj => hok.out j hj (by omega))]; simp)
      clear hok
      have m1 : (0 : Int) ≤ (k : Int) * 64 := by omega
      have m2 : (k : Int) * 64 ≤ ((k : Int) + 1) * 64 := by omega
      have m3 : ((k : Int) + 1) * 64 ≤ D.data.length := by omega
      go_wp2_with fail
      go_ret
      exact ⟨by rw [Hs.out]; simp [Dk.sector], hb⟩
set_option maxRecDepth 100000 in
theorem r1_read_off (D : Dk) (p q : Pl) (w : World) (hD : IsDk w D p q) (k : Int) (h1 : D.off = true) :
    Calls Tryz.prog 89 #[dval D p q, .int .i64 k] w fun e w' => e = .returned (.tuple #[.string (bs (D.read k).1), .int .i64 (D.read k).2]) ∧ Below w.heap.size w w' := by
  have Hw := hid (show D.read k = ([], 12) by simp [Dk.read, *])
  obtain ⟨A1, c1⟩ := p
  obtain ⟨A2, c2⟩ := q
  go_enter Tryz.func89, Tryz.ntmps89
  go_wp2_with fail
  go_ret2
  exact ⟨by rw [Hw.out]; rfl, (Below.refl w.heap.size w).alloc (Nat.le_refl _) _⟩
set_option maxRecDepth 100000 in
theorem r1_read_out (D : Dk) (p q : Pl) (w : World) (hD : IsDk w D p q) (k : Int) (h1 : D.off = false) (h2 : D.there k = false) :
    Calls Tryz.prog 89 #[dval D p q, .int .i64 k] w fun e w' => e = .returned (.tuple #[.string (bs (D.read k).1), .int .i64 (D.read k).2]) ∧ Below w.heap.size w w' := by
  have Hw := hid (show D.read k = ([], 10) by simp [Dk.read, *])
  obtain ⟨A1, c1⟩ := p
  obtain ⟨A2, c2⟩ := q
  have hth := r1_there D ⟨A1, c1⟩ ⟨A2, c2⟩ hD.data k
  rw [h2] at hth
  have hb0 := (Below.refl w.heap.size w).alloc (Nat.le_refl _) (.cells #[.string (bs D.data), .slice A1 D.cache.length c1, .int .i64 D.fuse, .bool D.off, .slice A2 D.bad.length c2] 25)
  clear h2
  obtain ⟨data, cache, fuse, off, bad⟩ := D
  simp only at h1
  subst h1
  go_enter Tryz.func89, Tryz.ntmps89
  go_wp2_with (go_at_call 100; refine (hth _).mono ?_; rintro e w1 ⟨rfl, hb1⟩; have b0 := blk_new _ _ hb1; have y0 := blk5 b0)
  go_ret2
  exact ⟨by rw [Hw.out]; rfl, bt hb0 hb1⟩
set_option maxRecDepth 100000 in
theorem r1_read_bad (D : Dk) (p q : Pl) (w : World) (hD : IsDk w D p q) (k : Int) (h1 : D.off = false) (h2 : D.there k = true) (h5 : k ∈ D.bad) :
    Calls Tryz.prog 89 #[dval D p q, .int .i64 k] w fun e w' => e = .returned (.tuple #[.string (bs (D.read k).1), .int .i64 (D.read k).2]) ∧ Below w.heap.size w w' := by
  have Hw := hid (show D.read k = ([], 13) by simp [Dk.read, *])
  obtain ⟨A1, c1⟩ := p
  obtain ⟨A2, c2⟩ := q
  have hth := r1_there D ⟨A1, c1⟩ ⟨A2, c2⟩ hD.data k
  rw [h2] at hth
  have hbd := fun (W : World) (hW : IsDk W D ⟨A1, c1⟩ ⟨A2, c2⟩) => r1_bad D ⟨A1, c1⟩ ⟨A2, c2⟩ W hW k
  simp only [h5] at hbd
  have hb0 := (Below.refl w.heap.size w).alloc (Nat.le_refl _) (.cells #[.string (bs D.data), .slice A1 D.cache.length c1, .int .i64 D.fuse, .bool D.off, .slice A2 D.bad.length c2] 25)
  clear h2 h5
  obtain ⟨data, cache, fuse, off, bad⟩ := D
  simp only at h1
  subst h1
  go_enter Tryz.func89, Tryz.ntmps89
  go_wp2_with (first | (go_at_call 100; refine (hth _).mono ?_; rintro e w1 ⟨rfl, hb1⟩; have b0 := blk_new _ _ hb1; have y0 := blk5 b0) | (go_at_call 149; refine (hbd _ (hD.below (bt hb0 hb1))).mono ?_; rintro e w2 ⟨rfl, hb2⟩; have b02 := b0.below hb2 b0.lt; have y02 := blk5 b02))
  go_ret2
  exact ⟨by rw [Hw.out]; rfl, bt (bt hb0 hb1) hb2⟩
set_option maxRecDepth 100000 in
theorem r1_read_ok (D : Dk) (p q : Pl) (w : World) (hD : IsDk w D p q) (k : Int) (h1 : D.off = false) (h2 : D.there k = true) (h5 : k ∉ D.bad) (hl : D.data.length = D.sz * 64) :
    Calls Tryz.prog 89 #[dval D p q, .int .i64 k] w fun e w' => e = .returned (.tuple #[.string (bs (D.read k).1), .int .i64 (D.read k).2]) ∧ Below w.heap.size w w' := by
  have Hw := hid (show D.read k = (D.sees k, 0) by simp [Dk.read, *])
  obtain ⟨A1, c1⟩ := p
  obtain ⟨A2, c2⟩ := q
  have hth := r1_there D ⟨A1, c1⟩ ⟨A2, c2⟩ hD.data k
  rw [h2] at hth
  have hbd := fun (W : World) (hW : IsDk W D ⟨A1, c1⟩ ⟨A2, c2⟩) => r1_bad D ⟨A1, c1⟩ ⟨A2, c2⟩ W hW k
  simp only [h5] at hbd
  have hb0 := (Below.refl w.heap.size w).alloc (Nat.le_refl _) (.cells #[.string (bs D.data), .slice A1 D.cache.length c1, .int .i64 D.fuse, .bool D.off, .slice A2 D.bad.length c2] 25)
  have H2 := hid h2; clear h2 h5
  have Hl := hid hl; clear hl
  obtain ⟨data, cache, fuse, off, bad⟩ := D
  simp only at h1
  subst h1
  go_enter Tryz.func89, Tryz.ntmps89
  go_wp2_with (first | (go_at_call 100; refine (hth _).mono ?_; rintro e w1 ⟨rfl, hb1⟩; have b0 := blk_new _ _ hb1; have y0 := blk5 b0) | (go_at_call 149; refine (hbd _ (hD.below (bt hb0 hb1))).mono ?_; rintro e w2 ⟨rfl, hb2⟩; have b02 := b0.below hb2 b0.lt; have y02 := blk5 b02) | (go_at_call 53; refine (r1_sees ⟨data, cache, fuse, false, bad⟩ ⟨A1, c1⟩ ⟨A2, c2⟩ _ (hD.below (bt (bt hb0 hb1) hb2)) k H2.out Hl.out).mono ?_; rintro e w3 ⟨rfl, hb3⟩))
  go_ret2
  exact ⟨by rw [Hw.out]; rfl, bt (bt (bt hb0 hb1) hb2) hb3⟩
theorem r1_read (D : Dk) (p q : Pl) (w : World) (hD : IsDk w D p q) (k : Int) (hl : D.data.length = D.sz * 64) :
    Calls Tryz.prog 89 #[dval D p q, .int .i64 k] w fun e w' => e = .returned (.tuple #[.string (bs (D.read k).1), .int .i64 (D.read k).2]) ∧ Below w.heap.size w w' := by
  cases h1 : D.off with
  | true => exact r1_read_off D p q w hD k h1
  | false =>
    cases h2 : D.there k with
    | false => exact r1_read_out D p q w hD k h1 h2
    | true =>
      by_cases h5 : k ∈ D.bad
      · exact r1_read_bad D p q w hD k h1 h2 h5
      · exact r1_read_ok D p q w hD k h1 h2 h5 hl
end Go.Proofs.YtplgmlcoeehnfaaGreat
