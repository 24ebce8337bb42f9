/- DevReads: what is written is read, and other sectors are not touched; behind a flush a crash changes nothing: any device, any places, any text, whatever is kept. No condition. -/
import Derived.Test.YtjpjpiejcpeepaaLaw01c
import Derived.Test.YtjpjpiejcpeepaaDevLaw3
set_option linter.unusedVariables false
namespace Go.Proofs.Ytjpjpiejcpeepaa.devReads
open Go.RowKit Go.Shelf Go.WideShapes Go.ChangeShapes Go.ChangeAt
open Go.ChangeMaps (open_string shut_string)
attribute [local go_sem] bs_mk bs_append bs_extract bs_size bs_toList bs_get

section
variable (D : Dk) (p q : Pl) (k o : Int) (s : List UInt8) (A3 : Option Addr) (n3 c3 : Nat)
abbrev args : Array Value := #[dval D p q, .int .i64 k, .int .i64 o, .string (bs s), .slice A3 n3 c3]
set_option maxRecDepth 100000 in
theorem walk_heavy (w : World) (h0 : IsDk0 w D p q) (hl : light D = false) :
    Calls Try.prog 6 (args D p q k o s A3 n3 c3) w fun e w' => e = .returned (.bool true) ∧ Below w.heap.size w w' := by
  have m1 := h0.data
  have m2 := Nat.le_trans h0.pc h0.pm
  have m3 := Nat.le_trans h0.qc h0.qm
  have hL := hid hl
  obtain ⟨A1, c1⟩ := p
  obtain ⟨A2, c2⟩ := q
  go_enter Try.func6, Try.ntmps6
  go_wp2_with fail
  go_at_call 19
  refine (light0 D ⟨A1, c1⟩ ⟨A2, c2⟩ _ m1 m2 m3).mono ?_
  rintro e w1 ⟨rfl, hb1⟩
  rw [hL.out]
  go_wp2_with fail
  go_at_call 21
  refine (awake01 _).mono ?_
  rintro e w2 ⟨rfl, hb2⟩
  go_wp2_with fail
  go_ret
  have b1 := bt ((Below.refl w.heap.size w).alloc (Nat.le_refl _) _) hb1
  exact ⟨rfl, bt b1 hb2⟩
set_option maxRecDepth 100000 in
theorem walk_unfit (w : World) (h0 : IsDk w D p q) (hl : light D = true) (hf : D.fit = false) :
    Calls Try.prog 6 (args D p q k o s A3 n3 c3) w fun e w' => e = .returned (.bool true) ∧ Below w.heap.size w w' := by
  have m1 := h0.data
  have m2 := Nat.le_trans h0.pc h0.pm
  have m3 := Nat.le_trans h0.qc h0.qm
  have hL := hid hl
  have hF := hid hf
  obtain ⟨A1, c1⟩ := p
  obtain ⟨A2, c2⟩ := q
  have hB := (Below.refl w.heap.size w).alloc (Nat.le_refl _) (.cells #[.string (bs D.data), .slice A1 D.cache.length c1, .int .i64 D.fuse, .bool D.off, .slice A2 D.bad.length c2] 25)
  have x0 := Blk.new w 25 #[.string (bs D.data), .slice A1 D.cache.length c1, .int .i64 D.fuse, .bool D.off, .slice A2 D.bad.length c2]
  go_enter Try.func6, Try.ntmps6
  go_wp2_with fail
  go_at_call 19
  refine (light0 D ⟨A1, c1⟩ ⟨A2, c2⟩ _ (by omega) m2 m3).mono ?_
  rintro e w1 ⟨rfl, hb1⟩
  rw [hL.out]
  have x1 := x0.below hb1 x0.lt
  have y1 := blk5 x1
  have B1 := bt hB hb1
  go_wp2_with fail
  go_at_call 20
  refine (r1_fit D ⟨A1, c1⟩ ⟨A2, c2⟩ _ (h0.below B1) (by have := (light_of hL.out).2.1; omega)).mono ?_
  rintro e w2 ⟨rfl, hb2⟩
  rw [hF.out]
  go_wp2_with fail
  go_at_call 21
  refine (awake01 _).mono ?_
  rintro e w3 ⟨rfl, hb3⟩
  go_wp2_with fail
  go_ret
  exact ⟨rfl, bt (bt B1 hb2) hb3⟩
set_option maxRecDepth 100000 in
theorem walk_not (w : World) (h0 : IsDk w D p q) (hl : light D = true) (hf : D.fit = true) (hk : okInt k) (hs : s.length ≤ 9223372036854775807) (wo : Bool) (er : Int) (hw : D.write k s = ({ D with off := wo }, er)) (he : er ≠ 0) (ho : wo = D.off ∨ er = 12) :
    Calls Try.prog 6 (args D p q k o s A3 n3 c3) w fun e w' => e = .returned (.bool true) ∧ Below w.heap.size w w' := by
  have m1 := h0.data
  have m2 := Nat.le_trans h0.pc h0.pm
  have m3 := Nat.le_trans h0.qc h0.qm
  have hL := hid hl
  have hF := hid hf
  have hW : ∀ W, IsDk W D p q → Calls Try.prog 25 #[dval D p q, .int .i64 k, .string (bs s)] W fun e w' => RetDk ({ D with off := wo }, er) e w' ∧ Below W.heap.size W w' := fun W h => by
    have := d_write D p q W h k hk s hs
    rwa [hw] at this
  clear hw
  obtain ⟨A1, c1⟩ := p
  obtain ⟨A2, c2⟩ := q
  have hB := (Below.refl w.heap.size w).alloc (Nat.le_refl _) (.cells #[.string (bs D.data), .slice A1 D.cache.length c1, .int .i64 D.fuse, .bool D.off, .slice A2 D.bad.length c2] 25)
  have x0 := Blk.new w 25 #[.string (bs D.data), .slice A1 D.cache.length c1, .int .i64 D.fuse, .bool D.off, .slice A2 D.bad.length c2]
  go_enter Try.func6, Try.ntmps6
  go_wp2_with fail
  go_at_call 19
  refine (light0 D ⟨A1, c1⟩ ⟨A2, c2⟩ _ (by omega) m2 m3).mono ?_
  rintro e w1 ⟨rfl, hb1⟩
  rw [hL.out]
  have x1 := x0.below hb1 x0.lt
  have y1 := blk5 x1
  have B1 := bt hB hb1
  go_wp2_with fail
  go_at_call 20
  refine (r1_fit D ⟨A1, c1⟩ ⟨A2, c2⟩ _ (h0.below B1) (by have := (light_of hL.out).2.1; omega)).mono ?_
  rintro e w2 ⟨rfl, hb2⟩
  rw [hF.out]
  have x2 := x1.below hb2 x1.lt
  have y2 := blk5 x2
  have B2 := bt B1 hb2
  go_wp2_with fail
  go_at_call 25
  refine (hW _ (h0.below B2)).mono ?_
  rintro e w3 ⟨⟨p', q', rfl, hD3⟩, hb3⟩
  obtain ⟨A1', c1'⟩ := p'
  obtain ⟨A2', c2'⟩ := q'
  have x3 := x2.below hb3 x2.lt
  have B3 := bt B2 hb3
  have ne1 : ¬ w3.heap.size = w.heap.size := by have := x3.lt; omega
  have ne2 : ¬ w.heap.size = w3.heap.size := by omega
  have x4 := x3.alloc (.cells #[.string (bs D.data), .slice A1' D.cache.length c1', .int .i64 D.fuse, .bool wo, .slice A2' D.bad.length c2'] 25)
  have z4 := Blk.new w3 25 #[.string (bs D.data), .slice A1' D.cache.length c1', .int .i64 D.fuse, .bool wo, .slice A2' D.bad.length c2']
  have y4 := blk5 x4
  have y4' := blk5 z4
  go_wp2_with fail
  go_at_call 26
  have B4 := below_two w3 (.cells #[.string (bs D.data), .slice A1' D.cache.length c1', .int .i64 D.fuse, .bool wo, .slice A2' D.bad.length c2'] 25) (.cells #[.string (bs D.data), .slice A1 D.cache.length c1, .int .i64 D.fuse, .bool wo, .slice A2 D.bad.length c2] 25)
  refine (r1_same { D with off := wo } { D with off := wo } ⟨A1', c1'⟩ ⟨A2', c2'⟩ ⟨A1, c1⟩ ⟨A2, c2⟩ _ (hD3.below B4) (((h0.below B3).below B4).setOff wo)).mono ?_
  rintro e w5 ⟨rfl, hb5⟩
  rw [Dk.same_self]
  have x5 := (x4.alloc (.cells #[.string (bs D.data), .slice A1 D.cache.length c1, .int .i64 D.fuse, .bool wo, .slice A2 D.bad.length c2] 25)).below hb5 (by simp; have := x3.lt; omega)
  have z5 := (z4.alloc (.cells #[.string (bs D.data), .slice A1 D.cache.length c1, .int .i64 D.fuse, .bool wo, .slice A2 D.bad.length c2] 25)).below hb5 (by simp; omega)
  have y5 := blk5 x5
  have y5' := blk5 z5
  have B5 := bt (bt B3 B4) hb5
  rcases ho with ho | ho
  · subst ho
    go_wp2_with fail
    go_at_call 21
    refine (awake01 _).mono ?_
    rintro e w6 ⟨rfl, hb6⟩
    go_wp2_with fail
    go_ret
    exact ⟨rfl, bt B5 hb6⟩
  · subst ho
    by_cases ho : wo = D.off
    · subst ho
      go_wp2_with fail
      go_at_call 21
      refine (awake01 _).mono ?_
      rintro e w6 ⟨rfl, hb6⟩
      go_wp2_with fail
      go_ret
      exact ⟨rfl, bt B5 hb6⟩
    · go_wp2_with fail
      go_at_call 21
      refine (awake01 _).mono ?_
      rintro e w6 ⟨rfl, hb6⟩
      go_wp2_with fail
      go_ret
      exact ⟨rfl, bt B5 hb6⟩
set_option maxRecDepth 100000 in
set_option maxHeartbeats 2000000 in
theorem walk_ok (w : World) (h0 : IsDk w D p q) (hl : light D = true) (hf : D.fit = true) (hk : okInt k) (hs : s.length ≤ 9223372036854775807) (W U : Dk) (er : Int) (b c : List UInt8) (g : Int)
    (hw : D.write k s = (W, 0)) (hWf : W.fit = true) (rk : W.read k = (s, 0)) (ro : W.read o = (b, g)) (rd : D.read o = (c, g)) (hbc : o ≠ k → b = c) (hfl : W.flush = (U, er))
    (hend : (er = 12 ∧ U.off = true) ∨ (er = 0 ∧ U.fit = true ∧ U.cache = [] ∧ ({ U with fuse := -1, off := false } : Dk).read k = (s, 0)))
    (ks : List Bool) (hn3 : n3 = ks.length) (hks : Cells w A3 (boolCells ks)) (hkl : ks.length ≤ 9223372036854775807) (hUc : U.cache = [] → ∀ f, U.crash f = { U with fuse := -1, off := false }) (hUr : er = 0 → U.off = false) :
    Calls Try.prog 6 (args D p q k o s A3 n3 c3) w fun e w' => e = .returned (.bool true) ∧ Below w.heap.size w w' := by
  have m1 := h0.data
  have m2 := Nat.le_trans h0.pc h0.pm
  have m3 := Nat.le_trans h0.qc h0.qm
  have hL := hid hl
  have hF := hid hf
  have hW : ∀ W0, IsDk W0 D p q → Calls Try.prog 25 #[dval D p q, .int .i64 k, .string (bs s)] W0 fun e w' => RetDk (W, 0) e w' ∧ Below W0.heap.size W0 w' := fun W0 h => by
    have := d_write D p q W0 h k hk s hs
    rwa [hw] at this
  have dl := (Dk.fit_parts hf).2.2.1
  have wl := (Dk.fit_parts hWf).2.2.1
  have hR : ∀ p' q' W0, IsDk W0 W p' q' → Calls Try.prog 27 #[dval W p' q', .int .i64 k] W0 fun e w' => e = .returned (.tuple #[.string (bs s), .int .i64 0]) ∧ Below W0.heap.size W0 w' := fun p' q' W0 h => by
    have := d_read W p' q' W0 h k wl
    rwa [rk] at this
  have hR2 : ∀ p' q' W0, IsDk W0 W p' q' → Calls Try.prog 27 #[dval W p' q', .int .i64 o] W0 fun e w' => e = .returned (.tuple #[.string (bs b), .int .i64 g]) ∧ Below W0.heap.size W0 w' := fun p' q' W0 h => by
    have := d_read W p' q' W0 h o wl
    rwa [ro] at this
  have hR3 : ∀ W0, IsDk W0 D p q → Calls Try.prog 27 #[dval D p q, .int .i64 o] W0 fun e w' => e = .returned (.tuple #[.string (bs c), .int .i64 g]) ∧ Below W0.heap.size W0 w' := fun W0 h => by
    have := d_read D p q W0 h o dl
    rwa [rd] at this
  have hFl : ∀ p' q' W0, IsDk W0 W p' q' → Calls Try.prog 28 #[dval W p' q'] W0 fun e w' => RetDk (U, er) e w' ∧ Below W0.heap.size W0 w' := fun p' q' W0 h => by
    have := d_flush W p' q' W0 h hWf
    rwa [hfl] at this
  clear hw rk ro rd hfl dl wl
  obtain ⟨A1, c1⟩ := p
  obtain ⟨A2, c2⟩ := q
  have hB := (Below.refl w.heap.size w).alloc (Nat.le_refl _) (.cells #[.string (bs D.data), .slice A1 D.cache.length c1, .int .i64 D.fuse, .bool D.off, .slice A2 D.bad.length c2] 25)
  have x0 := Blk.new w 25 #[.string (bs D.data), .slice A1 D.cache.length c1, .int .i64 D.fuse, .bool D.off, .slice A2 D.bad.length c2]
  go_enter Try.func6, Try.ntmps6
  go_wp2_with fail
  go_at_call 19
  refine (light0 D ⟨A1, c1⟩ ⟨A2, c2⟩ _ (by omega) m2 m3).mono ?_
  rintro e w1 ⟨rfl, hb1⟩
  rw [hL.out]
  have x1 := x0.below hb1 x0.lt
  have y1 := blk5 x1
  have B1 := bt hB hb1
  go_wp2_with fail
  go_at_call 20
  refine (r1_fit D ⟨A1, c1⟩ ⟨A2, c2⟩ _ (h0.below B1) (by have := (light_of hL.out).2.1; omega)).mono ?_
  rintro e w2 ⟨rfl, hb2⟩
  rw [hF.out]
  have x2 := x1.below hb2 x1.lt
  have y2 := blk5 x2
  have B2 := bt B1 hb2
  go_wp2_with fail
  go_at_call 25
  refine (hW _ (h0.below B2)).mono ?_
  rintro e w3 ⟨⟨p1, q1, rfl, hD3⟩, hb3⟩
  have x3 := x2.below hb3 x2.lt
  have B3 := bt B2 hb3
  have ne1 : ¬ w3.heap.size = w.heap.size := by have := x3.lt; omega
  have ne2 : ¬ w.heap.size = w3.heap.size := by omega
  have x4 := x3.alloc (.cells #[.string (bs W.data), .slice p1.a W.cache.length p1.c, .int .i64 W.fuse, .bool W.off, .slice q1.a W.bad.length q1.c] 25)
  have z4 := Blk.new w3 25 #[.string (bs W.data), .slice p1.a W.cache.length p1.c, .int .i64 W.fuse, .bool W.off, .slice q1.a W.bad.length q1.c]
  have i4 : IsDk (w3.alloc (.cells #[.string (bs W.data), .slice p1.a W.cache.length p1.c, .int .i64 W.fuse, .bool W.off, .slice q1.a W.bad.length q1.c] 25)) W p1 q1 := hD3.below ((Below.refl _ _).alloc (Nat.le_refl _) _)
  have y4 := blk5 x4
  have y4' := blk5 z4
  have B4 := B3.alloc B3.size (.cells #[.string (bs W.data), .slice p1.a W.cache.length p1.c, .int .i64 W.fuse, .bool W.off, .slice q1.a W.bad.length q1.c] 25)
  go_wp2_with fail
  go_at_call 27
  refine (hR p1 q1 _ i4).mono ?_
  rintro e w5 ⟨rfl, hb5⟩
  have i5 := i4.below hb5
  have x5 := x4.below hb5 x4.lt
  have z5 := z4.below hb5 z4.lt
  have B5 := bt B4 hb5
  have y5 := blk5 x5
  have y5' := blk5 z5
  go_wp2_with fail
  go_at_call 27
  refine (hR2 p1 q1 _ i5).mono ?_
  rintro e w6 ⟨rfl, hb6⟩
  have i6 := i5.below hb6
  have x6 := x5.below hb6 x5.lt
  have z6 := z5.below hb6 z5.lt
  have B6 := bt B5 hb6
  have y6 := blk5 x6
  have y6' := blk5 z6
  go_wp2_with fail
  go_at_call 27
  refine (hR3 _ (h0.below B6)).mono ?_
  rintro e w7 ⟨rfl, hb7⟩
  have i7 := i6.below hb7
  have x7 := x6.below hb7 x6.lt
  have z7 := z6.below hb7 z6.lt
  have B7 := bt B6 hb7
  have y7 := blk5 x7
  have y7' := blk5 z7
  have hob : o = k ∨ (¬ o = k ∧ b = c) := by
    by_cases h : o = k
    · exact .inl h
    · exact .inr ⟨h, hbc h⟩
  clear hbc
  rcases hob with hob | ⟨hob, hob2⟩
  · subst hob
    go_wp2_with fail
    go_at_call 28
    refine (hFl p1 q1 _ i7).mono ?_
    rintro e w8 ⟨⟨p2, q2, rfl, hU8⟩, hb8⟩
    have B8 := bt B7 hb8
    have v8 := Blk.new w8 25 #[.string (bs U.data), .slice p2.a U.cache.length p2.c, .int .i64 U.fuse, .bool U.off, .slice q2.a U.bad.length q2.c]
    have i8 : IsDk (w8.alloc (.cells #[.string (bs U.data), .slice p2.a U.cache.length p2.c, .int .i64 U.fuse, .bool U.off, .slice q2.a U.bad.length q2.c] 25)) U p2 q2 := hU8.below ((Below.refl _ _).alloc (Nat.le_refl _) _)
    have y8 := blk5 v8
    have B8' := B8.alloc B8.size (.cells #[.string (bs U.data), .slice p2.a U.cache.length p2.c, .int .i64 U.fuse, .bool U.off, .slice q2.a U.bad.length q2.c] 25)
    rcases hend with ⟨rfl, hoff⟩ | ⟨rfl, huf, huc, hur⟩
    · go_wp2_with fail
      go_at_call 21
      refine (awake01 _).mono ?_
      rintro e w9 ⟨rfl, hb9⟩
      go_wp2_with fail
      go_ret
      exact ⟨rfl, bt (B8.alloc B8.size _) hb9⟩
    · have hcl := hid (show U.cache.length = 0 by rw [huc]; rfl)
      have hUk := hUc huc
      have hXl := (Dk.fit_parts huf).2.2.1
      have hcr := d_crash U p2 q2 _ i8 huf ks A3 c3 (hks.below B8') hkl
      rw [hUk] at hcr
      clear hUk hUc huc huf hUr
      go_wp2_with fail
      go_at_call 22
      refine hcr.mono ?_
      rintro e w9 ⟨⟨p3, q3, rfl, hX9⟩, hb9⟩
      have v9 := v8.below hb9 v8.lt
      have B9 := bt B8' hb9
      have ne3 : ¬ w9.heap.size = w8.heap.size := by have := v9.lt; omega
      have ne4 : ¬ w8.heap.size = w9.heap.size := by omega
      have v10 := v9.alloc (.cells #[.string (bs U.data), .slice p3.a U.cache.length p3.c, .int .i64 (-1), .bool false, .slice q3.a U.bad.length q3.c] 25)
      have t10 := Blk.new w9 25 #[.string (bs U.data), .slice p3.a U.cache.length p3.c, .int .i64 (-1), .bool false, .slice q3.a U.bad.length q3.c]
      have y10 := blk5 v10
      have y10' := blk5 t10
      have i10 : IsDk (w9.alloc (.cells #[.string (bs U.data), .slice p3.a U.cache.length p3.c, .int .i64 (-1), .bool false, .slice q3.a U.bad.length q3.c] 25)) { U with fuse := -1, off := false } p3 q3 := hX9.below ((Below.refl _ _).alloc (Nat.le_refl _) _)
      have B10 := B9.alloc B9.size (.cells #[.string (bs U.data), .slice p3.a U.cache.length p3.c, .int .i64 (-1), .bool false, .slice q3.a U.bad.length q3.c] 25)
      have hrd := d_read { U with fuse := -1, off := false } p3 q3 _ i10 o hXl
      rw [hur] at hrd
      go_wp2_with fail
      go_at_call 27
      refine hrd.mono ?_
      rintro e w11 ⟨rfl, hb11⟩
      have v11 := v10.below hb11 v10.lt
      have t11 := t10.below hb11 t10.lt
      have y11 := blk5 v11
      have y11' := blk5 t11
      have B11 := bt B10 hb11
      have hcl' := hcl.out
      go_wp2_with fail
      go_at_call 21
      refine (awake01 _).mono ?_
      rintro e w12 ⟨rfl, hb12⟩
      go_wp2_with fail
      go_ret
      exact ⟨rfl, bt B11 hb12⟩
  · subst hob2
    go_wp2_with fail
    go_at_call 28
    refine (hFl p1 q1 _ i7).mono ?_
    rintro e w8 ⟨⟨p2, q2, rfl, hU8⟩, hb8⟩
    have B8 := bt B7 hb8
    have v8 := Blk.new w8 25 #[.string (bs U.data), .slice p2.a U.cache.length p2.c, .int .i64 U.fuse, .bool U.off, .slice q2.a U.bad.length q2.c]
    have i8 : IsDk (w8.alloc (.cells #[.string (bs U.data), .slice p2.a U.cache.length p2.c, .int .i64 U.fuse, .bool U.off, .slice q2.a U.bad.length q2.c] 25)) U p2 q2 := hU8.below ((Below.refl _ _).alloc (Nat.le_refl _) _)
    have y8 := blk5 v8
    have B8' := B8.alloc B8.size (.cells #[.string (bs U.data), .slice p2.a U.cache.length p2.c, .int .i64 U.fuse, .bool U.off, .slice q2.a U.bad.length q2.c] 25)
    rcases hend with ⟨rfl, hoff⟩ | ⟨rfl, huf, huc, hur⟩
    · go_wp2_with fail
      go_at_call 21
      refine (awake01 _).mono ?_
      rintro e w9 ⟨rfl, hb9⟩
      go_wp2_with fail
      go_ret
      exact ⟨rfl, bt (B8.alloc B8.size _) hb9⟩
    · have hcl := hid (show U.cache.length = 0 by rw [huc]; rfl)
      have hUk := hUc huc
      have hXl := (Dk.fit_parts huf).2.2.1
      have hcr := d_crash U p2 q2 _ i8 huf ks A3 c3 (hks.below B8') hkl
      rw [hUk] at hcr
      clear hUk hUc huc huf hUr
      go_wp2_with fail
      go_at_call 22
      refine hcr.mono ?_
      rintro e w9 ⟨⟨p3, q3, rfl, hX9⟩, hb9⟩
      have v9 := v8.below hb9 v8.lt
      have B9 := bt B8' hb9
      have ne3 : ¬ w9.heap.size = w8.heap.size := by have := v9.lt; omega
      have ne4 : ¬ w8.heap.size = w9.heap.size := by omega
      have v10 := v9.alloc (.cells #[.string (bs U.data), .slice p3.a U.cache.length p3.c, .int .i64 (-1), .bool false, .slice q3.a U.bad.length q3.c] 25)
      have t10 := Blk.new w9 25 #[.string (bs U.data), .slice p3.a U.cache.length p3.c, .int .i64 (-1), .bool false, .slice q3.a U.bad.length q3.c]
      have y10 := blk5 v10
      have y10' := blk5 t10
      have i10 : IsDk (w9.alloc (.cells #[.string (bs U.data), .slice p3.a U.cache.length p3.c, .int .i64 (-1), .bool false, .slice q3.a U.bad.length q3.c] 25)) { U with fuse := -1, off := false } p3 q3 := hX9.below ((Below.refl _ _).alloc (Nat.le_refl _) _)
      have B10 := B9.alloc B9.size (.cells #[.string (bs U.data), .slice p3.a U.cache.length p3.c, .int .i64 (-1), .bool false, .slice q3.a U.bad.length q3.c] 25)
      have hrd := d_read { U with fuse := -1, off := false } p3 q3 _ i10 k hXl
      rw [hur] at hrd
      go_wp2_with fail
      go_at_call 27
      refine hrd.mono ?_
      rintro e w11 ⟨rfl, hb11⟩
      have v11 := v10.below hb11 v10.lt
      have t11 := t10.below hb11 t10.lt
      have y11 := blk5 v11
      have y11' := blk5 t11
      have B11 := bt B10 hb11
      have hcl' := hcl.out
      go_wp2_with fail
      go_at_call 21
      refine (awake01 _).mono ?_
      rintro e w12 ⟨rfl, hb12⟩
      go_wp2_with fail
      go_ret
      exact ⟨rfl, bt B11 hb12⟩
end
theorem walk (w : World) (D : Dk) (p q : Pl) (h0 : IsDk0 w D p q) (k : Int) (wk : (Lit.int .i64 k).wf = true) (o : Int) (_wo : (Lit.int .i64 o).wf = true) (s0 : ByteArray) (ws : s0.size ≤ maxLen) (A3 : Option Addr) (c3 : Nat) (ks : List Bool)
    (h3 : Cells w A3 (boolCells ks) ∧ (A3 = none → c3 = 0) ∧ ks.length ≤ c3 ∧ c3 ≤ maxLen ∧ ∀ x ∈ ks, True) :
    Calls Try.prog 6 #[dval D p q, .int .i64 k, .int .i64 o, .string s0, .slice A3 ks.length c3] w fun e w' => e = .returned (.bool true) ∧ Below w.heap.size w w' := by
  obtain ⟨s, rfl⟩ := bs_of s0
  rw [bs_size] at ws
  have hk := okInt_of wk
  obtain ⟨hks, _, hk1, hk2, _⟩ := h3
  by_cases hl : light D = true
  · obtain ⟨l1, l2, l3⟩ := light_of hl
    have hD := h0.full (by omega) (by omega) (by omega)
    by_cases hf : D.fit = true
    · by_cases hw : (D.write k s).2 = 0
      · obtain ⟨w1, w2, w3, w4, w5, w6, w7⟩ := Dk.write_ok hw
        have hWf : (D.put k s).fit = true := Dk.fit_write hf w6 w2 w3
        obtain ⟨r1, r2⟩ := Dk.put_read_other D k o s
        have hW : D.write k s = (D.put k s, 0) := w7
        have rk := Dk.put_read_same w1 w2 w5 (s := s)
        have there : (D.put k s).there k = true := w2
        rcases Dk.flush_cases (D.put k s) w1 with hfl | hfl
        · exact walk_ok D p q k o s A3 _ c3 w hD hl hf hk ws (D.put k s) _ 12 ((D.put k s).read o).1 (D.read o).1 ((D.put k s).read o).2 hW hWf rk rfl (by rw [r1]) r2 hfl (.inl ⟨rfl, rfl⟩) ks rfl hks (Nat.le_trans hk1 hk2)
            (fun h f => Dk.crash_empty h f) (fun h => by cases h)
        · exact walk_ok D p q k o s A3 _ c3 w hD hl hf hk ws (D.put k s) _ 0 ((D.put k s).read o).1 (D.read o).1 ((D.put k s).read o).2 hW hWf rk rfl (by rw [r1]) r2 hfl
            (.inr ⟨rfl, Dk.flushed_fit hWf _, rfl, by
              have := Dk.flushed_read (U := { (({ D.put k s with data := (D.put k s).last fun _ => true, cache := [] } : Dk).burnt) with fuse := -1, off := false }) hWf there w5 rfl rfl rfl rfl
              rw [Dk.put_sees, if_pos rfl] at this
              exact this⟩) ks rfl hks (Nat.le_trans hk1 hk2) (fun h f => Dk.crash_empty h f) (fun _ => w1)
      · obtain ⟨wo, er, h1, h2, h3⟩ := Dk.write_not hw
        exact walk_not D p q k o s A3 _ c3 w hD hl hf hk ws wo er h1 h2 h3
    · exact walk_unfit D p q k o s A3 _ c3 w hD hl (by simpa using hf)
  · exact walk_heavy D p q k o s A3 _ c3 w h0 (by simpa using hl)
/-! ### The row -/
theorem own : ownKnob Try.prog.godebug = none := by kernel_rfl
set_option maxRecDepth 100000 in
theorem lifted (os : Os) (started : os.Started) (H : Type) (enc : TypeId × Value → H) :
    ReturnsInHanded {} Try.checked os 6 .any (Rows.devReadsSpec.pre6 enc Try.prog Try.f6 Rows.devReadsRow.domain false) (Rows.devReadsSpec.post enc Try.prog Try.f6 false true false false) := by
  refine returnsInHanded_of_change (C := Try.checked) own started (by kernel_rfl) Try.func6
    (ChangeSpec.witness6 (enc := enc) (C := Try.checked) false ⟨#[], #[.agg #[.string ByteArray.empty, .slice none 0 0, .int .i64 0, .bool false, .slice none 0 0], .int .i64 0, .int .i64 0, .string ByteArray.empty, .slice none 0 0], []⟩ 8 (by kernel_rfl) (by kernel_rfl) (by kernel_rfl) (by kernel_rfl)) ?_
  intro W base args ds gs before hval0 hW hcnd _
  have hval : ∀ (j : Nat) t v, Try.f6.params[j]? = some t → args[j]? = some v → Value.okWide Try.prog W .any base t v := hval0
  have hW' := hW
  obtain ⟨p, q, hA0, hV, rfl, hfz, hnd⟩ := hW
  have hA : DataW.TrodAll enc Try.prog W 0 (fun _ => true) true Try.f6.params.toList args.toList ds p := hA0
  have hAk := hA
  rw [Try.params6] at hA hval
  obtain ⟨v0, vs0, d0, ds0, p0, q0, hargs, rfl, rfl, h0, r0⟩ := trodAll_cons hA
  obtain ⟨v1, vs1, d1, ds1, p1, q1, rfl, rfl, rfl, h1, r1⟩ := trodAll_cons r0
  obtain ⟨v2, vs2, d2, ds2, p2, q2, rfl, rfl, rfl, h2, r2⟩ := trodAll_cons r1
  obtain ⟨v3, vs3, d3, ds3, p3, q3, rfl, rfl, rfl, h3, r3⟩ := trodAll_cons r2
  obtain ⟨v4, vs4, d4, ds4, p4, q4, rfl, rfl, rfl, h4, r4⟩ := trodAll_cons r3
  obtain ⟨rfl, rfl, rfl⟩ := trodAll_nil r4
  obtain rfl : args = #[v0, v1, v2, v3, v4] := by cases args; simp_all
  obtain ⟨rfl, rfl⟩ := trodVars_none hV
  obtain ⟨D0, P0, Q0, rfl, w0⟩ := open_dk Try.underlying25 (by kernel_rfl) (by kernel_rfl) Try.underlying9 Try.underlying22 Try.underlying3 Try.underlying4 Try.underlying23 Try.underlying45 (by kernel_rfl) (by kernel_rfl) Try.underlying3 Try.underlying9 Try.underlying3 (by kernel_rfl) (hval 0 25 v0 rfl rfl) h0
  obtain ⟨a1, rfl, rfl, rfl, w1⟩ := open_int Try.underlying3 (hval 1 3 v1 rfl rfl) h1
  obtain ⟨a2, rfl, rfl, rfl, w2⟩ := open_int Try.underlying3 (hval 2 3 v2 rfl rfl) h2
  obtain ⟨a3, rfl, rfl, rfl, w3⟩ := open_string Try.underlying9 (hval 3 9 v3 rfl rfl) h3
  obtain ⟨A4, n4, c4, rfl⟩ := okWide_slice Try.underlying40 (hval 4 40 v4 rfl rfl)
  obtain ⟨_, h4'⟩ := h4
  obtain ⟨B4, e4, l4, hB4, w4⟩ := open_bools Try.underlying40 Try.underlying4 (by kernel_rfl) h4'
  rw [hB4] at hW' hAk ⊢
  clear hA0 hval0
  simp only [List.append_nil] at hW'
  refine (walk W D0 P0 Q0 w0 a1 w1 a2 w2 a3 w3 B4 e4 l4 w4).mono fun e W' ⟨he, hb⟩ => ?_
  subst he
  exact ⟨_, rfl, post_of_below (pa := _) (pv := []) hW' (fun _ _ _ => (trodAll_cons_mk (shut_bool Try.underlying4 _) trodAll_mk0)) (fun sp hsp => trodAll_stays (by kernel_rfl) hb (by kernel_rfl) hAk (fun x hx => hW'.lt x (by simpa using hx)) (fun x hx => hsp x (by simpa using hx))) (fun _ _ => rfl) (by simp) hb (ok_one (by kernel_rfl) rfl (okWide_bool_mk Try.underlying4 _))⟩
theorem over_ : Rows.devReadsRow.holds Try.pinned (OpenSpec.ofChange Rows.devReadsSpec) :=
  OpenClaim.holds_of_wide 6 Try.f6 rfl rfl rfl rfl rfl rfl rfl ⟨rfl, rfl, rfl, rfl, rfl⟩ rfl rfl rfl rfl rfl (by kernel_rfl) Try.func6 (by kernel_rfl)
    (of_decide_eq_true (by kernel_rfl)) (by unfold Func.isWrapper; first | (rw [if_pos (by decide +kernel)]; kernel_rfl) | (rw [if_neg (by decide +kernel)]; exact ⟨rfl, rfl⟩))
    (fun os started H enc _ => lifted os started H enc)
/-- The statement. -/
theorem proved : Rows.DevReadsSaid := over_
#print axioms proved
end Go.Proofs.Ytjpjpiejcpeepaa.devReads
