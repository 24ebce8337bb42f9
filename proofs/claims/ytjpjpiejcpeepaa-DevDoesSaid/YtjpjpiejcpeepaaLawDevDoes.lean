/- DevDoes: what is read, and what a device is behind a write, a flush, and other deeds, is the document's: any device, any place, any text, any number, whatever is kept. No condition. -/
import Derived.Test.YtjpjpiejcpeepaaLaw01c
import Derived.Test.YtjpjpiejcpeepaaSpoil3
import Derived.Test.YtjpjpiejcpeepaaDev7
import Derived.Test.YtjpjpiejcpeepaaDevLaw
import Derived.Test.YtjpjpiejcpeepaaOpen
import Derived.Test.YtjpjpiejcpeepaaShut
set_option linter.unusedVariables false
namespace Go.Proofs.Ytjpjpiejcpeepaa.devDoes
open Go.RowKit Go.Shelf Go.WideShapes Go.ChangeShapes Go.ChangeAt
open Go.ChangeMaps (open_string shut_string)
attribute [local go_sem] bs_mk bs_append bs_extract bs_size bs_toList bs_get
set_option maxRecDepth 100000 in
set_option maxHeartbeats 400000 in
theorem r1_crash_at (D : Dk) (p q : Pl) (w : World) (hD : IsDk w D p q) (hf : D.fit = true) (ks : List Bool) (A3 : Option Addr) (c3 : Nat) (hk : Cells w A3 (boolCells ks)) (hkl : ks.length ≤ 9223372036854775807) :
    Calls Try.prog 48 #[dval D p q, .slice A3 ks.length c3] w fun e w' => (e = .returned (dval (D.crash fun i => ks.getD i false) ⟨none, 0⟩ q) ∧ IsDk w' (D.crash fun i => ks.getD i false) ⟨none, 0⟩ q) ∧ Below w.heap.size w w' := by
  have hll := Dk.lastN_length hf (fun i => ks.getD i false) D.cache.length
  obtain ⟨f1, f2, f3, _⟩ := Dk.fit_parts hf
  obtain ⟨A1, c1⟩ := p
  obtain ⟨A2, c2⟩ := q
  have hdone := fun (W : World) (hW : IsDk W D ⟨A1, c1⟩ ⟨A2, c2⟩) (hB : Below w.heap.size w W) => r1_done D ⟨A1, c1⟩ ⟨A2, c2⟩ W hW hf false ks A3 c3 (hk.below hB) hkl
  simp only [Bool.false_or] at hdone
  have Hw := hid (show (D.crash fun i => ks.getD i false) = { D with data := D.last fun i => ks.getD i false, cache := [], fuse := -1, off := false } from rfl)
  change (D.last fun i => ks.getD i false).length = _ at hll
  generalize (D.last fun i => ks.getD i false) = L at *
  have hL : L.length ≤ 140737488355328 := by have := hD.data; omega
  clear f1 f2 f3 hll hf
  go_enter Try.func48, Try.ntmps48
  go_wp2_with (go_at_call 79; refine (hdone _ (hD.below (below_two _ _ _)) (below_two _ _ _)).mono ?_; rintro e w1 ⟨rfl, hb1⟩; obtain ⟨b0, b1⟩ := blk_two hb1; have y0 := blk5 b0; have y1 := blk5 b1; have y2 := b1.frozen; have y3 := b0.frozen)
  rw [Hw.out]
  have b1' := (((b1.other (a := ⟨w.heap.size, 0, none⟩) (by simp) (.string (bs L))).other (a := ⟨w.heap.size, 1, none⟩) (by simp) (.slice none 0 0)).other (a := ⟨w.heap.size, 2, none⟩) (by simp) (.int .i64 (-1))).other (a := ⟨w.heap.size, 3, none⟩) (by simp) (.bool false)
  have hb' := ((((bt (below_two _ _ _) hb1).setCell (p := ⟨w.heap.size, 0, none⟩) (Nat.le_refl _) (.string (bs L))).setCell (p := ⟨w.heap.size, 1, none⟩) (Nat.le_refl _) (.slice none 0 0)).setCell (p := ⟨w.heap.size, 2, none⟩) (Nat.le_refl _) (.int .i64 (-1))).setCell (p := ⟨w.heap.size, 3, none⟩) (Nat.le_refl _) (.bool false)
  have z1 := blk_set5 b1' (.string (bs L)) (.slice none 0 0) (.int .i64 (-1)) (.bool false) (.slice A2 D.bad.length c2)
  have hb := below_set5 hb' (g := w.heap.size + 1) (by omega) (.string (bs L)) (.slice none 0 0) (.int .i64 (-1)) (.bool false) (.slice A2 D.bad.length c2)
  have z2 := blk5 z1
  refine bodyPost_ret (v := dval ⟨L, [], -1, false, D.bad⟩ ⟨none, 0⟩ ⟨A2, c2⟩) (by simp [results, Try.results48, go_sem, z2]) rfl ?_
  exact ⟨⟨rfl, (((hD.flushed hL).setFuse (n := -1) (by omega)).setOff false).below hb⟩, hb⟩

set_option maxRecDepth 100000 in
theorem walk_heavy (D : Dk) (p q : Pl) (k : Int) (s : List UInt8) (n : Int) (A3 : Option Addr) (n3 c3 : Nat) (w : World) (h0 : IsDk0 w D p q) (hl : light D = false) :
    Calls Try.prog 12 #[dval D p q, .int .i64 k, .string (bs s), .int .i64 n, .slice A3 n3 c3] w fun e w' => e = .returned (.bool true) ∧ Below w.heap.size w w' := by
  have m1 := h0.data
  have m2 := Nat.le_trans h0.pc h0.pm
  have m3 := Nat.le_trans h0.qc h0.qm
  have hL := fun (W : World) => light0 D p q W m1 m2 m3
  rw [hl] at hL
  clear h0 hl
  obtain ⟨A1, a1⟩ := p
  obtain ⟨A2, a2⟩ := q
  have hB := Below.refl w.heap.size w
  have x := Blk.new w 25 #[.string (bs D.data), .slice A1 D.cache.length a1, .int .i64 D.fuse, .bool D.off, .slice A2 D.bad.length a2]
  have xk := blk5 x
  have hB_1 := hB.alloc hB.size (.cells #[.string (bs D.data), .slice A1 D.cache.length a1, .int .i64 D.fuse, .bool D.off, .slice A2 D.bad.length a2] 25)
  go_enter Try.func12, Try.ntmps12
  go_wp2_with fail
  go_at_call 19
  refine ((hL _)).mono ?_
  rintro e w1 ⟨rfl, hb1⟩
  replace hB := bt hB_1 hb1
  replace x := x.below hb1 x.lt
  replace xk := blk5 x
  clear hB_1
  go_wp2_with fail
  go_at_call 21
  refine ((awake01 _)).mono ?_
  rintro e wa ⟨rfl, hba⟩
  replace hB := bt hB hba
  replace x := x.below hba x.lt
  replace xk := blk5 x
  go_wp2_with fail
  go_ret
  exact ⟨rfl, hB⟩

set_option maxRecDepth 100000 in
theorem walk_unfit (D : Dk) (p q : Pl) (k : Int) (s : List UInt8) (n : Int) (A3 : Option Addr) (n3 c3 : Nat) (w : World) (h0 : IsDk w D p q) (hl : light D = true) (hf : D.fit = false) :
    Calls Try.prog 12 #[dval D p q, .int .i64 k, .string (bs s), .int .i64 n, .slice A3 n3 c3] w fun e w' => e = .returned (.bool true) ∧ Below w.heap.size w w' := by
  have m1 := h0.data
  have m2 := Nat.le_trans h0.pc h0.pm
  have m3 := Nat.le_trans h0.qc h0.qm
  have hL := fun (W : World) => light0 D p q W (by omega) m2 m3
  rw [hl] at hL
  have l2 := (light_of hl).2.1
  have hFt := fun (W : World) (hb : Below w.heap.size w W) => r1_fit D p q W (h0.below hb) (by omega)
  rw [hf] at hFt
  clear h0 hl hf
  obtain ⟨A1, a1⟩ := p
  obtain ⟨A2, a2⟩ := q
  have hB := Below.refl w.heap.size w
  have x := Blk.new w 25 #[.string (bs D.data), .slice A1 D.cache.length a1, .int .i64 D.fuse, .bool D.off, .slice A2 D.bad.length a2]
  have xk := blk5 x
  have hB_1 := hB.alloc hB.size (.cells #[.string (bs D.data), .slice A1 D.cache.length a1, .int .i64 D.fuse, .bool D.off, .slice A2 D.bad.length a2] 25)
  go_enter Try.func12, Try.ntmps12
  go_wp2_with fail
  go_at_call 19
  refine ((hL _)).mono ?_
  rintro e w1 ⟨rfl, hb1⟩
  replace hB := bt hB_1 hb1
  replace x := x.below hb1 x.lt
  replace xk := blk5 x
  clear hB_1
  go_wp2_with fail
  go_at_call 20
  refine ((hFt _ hB)).mono ?_
  rintro e w2 ⟨rfl, hb2⟩
  replace hB := bt hB hb2
  replace x := x.below hb2 x.lt
  replace xk := blk5 x
  go_wp2_with fail
  go_at_call 21
  refine ((awake01 _)).mono ?_
  rintro e wa ⟨rfl, hba⟩
  replace hB := bt hB hba
  replace x := x.below hba x.lt
  replace xk := blk5 x
  go_wp2_with fail
  go_ret
  exact ⟨rfl, hB⟩

set_option maxRecDepth 100000 in
set_option maxHeartbeats 2000000 in
theorem walk_ok (D : Dk) (p q : Pl) (k : Int) (s : List UInt8) (n : Int) (A3 : Option Addr) (ks : List Bool) (c3 : Nat) (w : World) (h0 : IsDk w D p q) (hl : light D = true) (hf : D.fit = true) (hk : okInt k) (hn : okInt n) (hs : s.length ≤ 9223372036854775807) (hks : Cells w A3 (boolCells ks)) (hkl : ks.length ≤ 9223372036854775807) :
    Calls Try.prog 12 #[dval D p q, .int .i64 k, .string (bs s), .int .i64 n, .slice A3 ks.length c3] w fun e w' => e = .returned (.bool true) ∧ Below w.heap.size w w' := by
  have m1 := h0.data
  have m2 := Nat.le_trans h0.pc h0.pm
  have m3 := Nat.le_trans h0.qc h0.qm
  have hL := fun (W : World) => light0 D p q W (by omega) m2 m3
  rw [hl] at hL
  have l2 := (light_of hl).2.1
  have hFt := fun (W : World) (hb : Below w.heap.size w W) => r1_fit D p q W (h0.below hb) (by omega)
  rw [hf] at hFt
  have hdl := (Dk.fit_parts hf).2.2.1
  have hin := (Dk.fit_parts hf).2.2.2.2.2.2
  have hbl := (light_of hl).2.2
  have c1 := fun (W : World) (hb : Below w.heap.size w W) => d_read D p q W (h0.below hb) k hdl
  have c2 := fun (W : World) (hb : Below w.heap.size w W) => r1_read D p q W (h0.below hb) k hdl
  have c3' := fun (W : World) (hb : Below w.heap.size w W) => d_write D p q W (h0.below hb) k hk s hs
  have c4 := fun (W : World) (hb : Below w.heap.size w W) => r1_write D p q W (h0.below hb) k hk s hs
  have c5 := fun (W : World) (hb : Below w.heap.size w W) => d_flush D p q W (h0.below hb) hf
  have c6 := fun (W : World) (hb : Below w.heap.size w W) => r1_flush D p q W (h0.below hb) hf
  have c7 := fun (W : World) (hb : Below w.heap.size w W) => d_spoil D p q W (h0.below hb) hin (by omega) k hk (decide (0 < n))
  have c8 := fun (W : World) (hb : Below w.heap.size w W) => r1_spoil D p q W (h0.below hb) hin (by omega) k hk (decide (0 < n))
  have e1 := fun (W : World) (hb : Below w.heap.size w W) => (d_arm D p q W (h0.below hb) n hn).mono fun _ _ h => (⟨h.1.1, h.2⟩ : _ ∧ _)
  have e2 := fun (W : World) (hb : Below w.heap.size w W) => (r1_arm D p q W (h0.below hb) n hn).mono fun _ _ h => (⟨h.1.1, h.2⟩ : _ ∧ _)
  have e3 := fun (W : World) (hb : Below w.heap.size w W) => (d_crash_at D p q W (h0.below hb) hf ks A3 c3 (hks.below hb) hkl).mono fun _ _ h => (⟨h.1.1, h.2⟩ : _ ∧ _)
  have e4 := fun (W : World) (hb : Below w.heap.size w W) => (r1_crash_at D p q W (h0.below hb) hf ks A3 c3 (hks.below hb) hkl).mono fun _ _ h => (⟨h.1.1, h.2⟩ : _ ∧ _)
  have e5 := fun (W : World) => d_size D p q h0.data W
  have e6 := fun (W : World) => r1_size D p q h0.data W
  have ia := fun (W : World) (hb : Below w.heap.size w W) => (show IsDk W (D.arm n) p q from (h0.below hb).setFuse (by have := hn.1; have := hn.2; omega))
  have hcl := Dk.lastN_length hf (fun i => ks.getD i false) D.cache.length
  have hsz := (Dk.fit_parts hf).2.1
  have ic := fun (W : World) (hb : Below w.heap.size w W) => (show IsDk W (D.crash fun i => ks.getD i false) ⟨none, 0⟩ q from ((((h0.below hb).flushed (L := D.last fun i => ks.getD i false) (by show (D.lastN _ _).length ≤ _; rw [hcl]; omega)).setFuse (n := -1) (by omega)).setOff false))
  generalize (D.crash fun i => ks.getD i false) = C at e3 e4 ic
  generalize D.arm n = R at e1 e2 ia
  generalize D.spoil k (decide (0 < n)) = P at c7 c8
  generalize D.flush = U at c5 c6
  generalize D.write k s = X at c3' c4
  generalize D.read k = rd at c1 c2
  obtain ⟨P, pe⟩ := P
  obtain ⟨U, ue⟩ := U
  obtain ⟨X, xe⟩ := X
  obtain ⟨rd, re⟩ := rd
  have sX := fun (W : World) (p1 q1 p2 q2 : Pl) (h1 : IsDk W X p1 q1) (h2 : IsDk W X p2 q2) => r1_same X X p1 q1 p2 q2 W h1 h2
  have sU := fun (W : World) (p1 q1 p2 q2 : Pl) (h1 : IsDk W U p1 q1) (h2 : IsDk W U p2 q2) => r1_same U U p1 q1 p2 q2 W h1 h2
  have sP := fun (W : World) (p1 q1 p2 q2 : Pl) (h1 : IsDk W P p1 q1) (h2 : IsDk W P p2 q2) => r1_same P P p1 q1 p2 q2 W h1 h2
  have sR := fun (W : World) (hb : Below w.heap.size w W) => r1_same R R p q p q W (ia W hb) (ia W hb)
  have sC := fun (W : World) (hb : Below w.heap.size w W) => r1_same C C ⟨none, 0⟩ q ⟨none, 0⟩ q W (ic W hb) (ic W hb)
  rw [Dk.same_self] at sX sU sP sR sC
  clear h0 hl hf l2 m1 m2 m3 hdl hin hbl ia ic hcl hks
  obtain ⟨A1, a1⟩ := p
  obtain ⟨A2, a2⟩ := q
  have hB := Below.refl w.heap.size w
  have x := Blk.new w 25 #[.string (bs D.data), .slice A1 D.cache.length a1, .int .i64 D.fuse, .bool D.off, .slice A2 D.bad.length a2]
  have xk := blk5 x
  have hB_1 := hB.alloc hB.size (.cells #[.string (bs D.data), .slice A1 D.cache.length a1, .int .i64 D.fuse, .bool D.off, .slice A2 D.bad.length a2] 25)
  go_enter Try.func12, Try.ntmps12
  go_wp2_with fail
  go_at_call 19
  refine ((hL _)).mono ?_
  rintro e w1 ⟨rfl, hb1⟩
  replace hB := bt hB_1 hb1
  replace x := x.below hb1 x.lt
  replace xk := blk5 x
  clear hB_1
  go_wp2_with fail
  go_at_call 20
  refine ((hFt _ hB)).mono ?_
  rintro e w2 ⟨rfl, hb2⟩
  replace hB := bt hB hb2
  replace x := x.below hb2 x.lt
  replace xk := blk5 x
  go_wp2_with fail
  go_at_call 27
  refine ((c1 _ hB)).mono ?_
  rintro e w3 ⟨rfl, hb3⟩
  replace hB := bt hB hb3
  replace x := x.below hb3 x.lt
  replace xk := blk5 x
  go_wp2_with fail
  go_at_call 42
  refine ((c2 _ hB)).mono ?_
  rintro e w4 ⟨rfl, hb4⟩
  replace hB := bt hB hb4
  replace x := x.below hb4 x.lt
  replace xk := blk5 x
  go_wp2_with fail
  go_at_call 25
  refine ((c3' _ hB)).mono ?_
  rintro e w5 ⟨⟨p1, q1, rfl, i1⟩, hb5⟩
  replace hB := bt hB hb5
  replace x := x.below hb5 x.lt
  replace xk := blk5 x
  have y1 := Blk.new w5 25 #[.string (bs X.data), .slice p1.a X.cache.length p1.c, .int .i64 X.fuse, .bool X.off, .slice q1.a X.bad.length q1.c]
  have y1k := blk5 y1
  have hB_2 := hB.alloc hB.size (.cells #[.string (bs X.data), .slice p1.a X.cache.length p1.c, .int .i64 X.fuse, .bool X.off, .slice q1.a X.bad.length q1.c] 25)
  have x_3 := x.alloc (.cells #[.string (bs X.data), .slice p1.a X.cache.length p1.c, .int .i64 X.fuse, .bool X.off, .slice q1.a X.bad.length q1.c] 25)
  have xk_3 := blk5 x_3
  have i1_4 := i1.below ((Below.refl _ _).alloc (Nat.le_refl _) (.cells #[.string (bs X.data), .slice p1.a X.cache.length p1.c, .int .i64 X.fuse, .bool X.off, .slice q1.a X.bad.length q1.c] 25))
  go_wp2_with fail
  go_at_call 43
  refine ((c4 _ hB_2)).mono ?_
  rintro e w6 ⟨⟨p2, q2, rfl, i2⟩, hb6⟩
  replace hB := bt hB_2 hb6
  replace x := x_3.below hb6 x_3.lt
  replace xk := blk5 x
  replace i1 := i1_4.below hb6
  replace y1 := y1.below hb6 y1.lt
  replace y1k := blk5 y1
  clear hB_2 xk_3 x_3 i1_4
  have y2 := Blk.new w6 25 #[.string (bs X.data), .slice p2.a X.cache.length p2.c, .int .i64 X.fuse, .bool X.off, .slice q2.a X.bad.length q2.c]
  have y2k := blk5 y2
  have hB_5 := hB.alloc hB.size (.cells #[.string (bs X.data), .slice p2.a X.cache.length p2.c, .int .i64 X.fuse, .bool X.off, .slice q2.a X.bad.length q2.c] 25)
  have x_6 := x.alloc (.cells #[.string (bs X.data), .slice p2.a X.cache.length p2.c, .int .i64 X.fuse, .bool X.off, .slice q2.a X.bad.length q2.c] 25)
  have xk_6 := blk5 x_6
  have i1_7 := i1.below ((Below.refl _ _).alloc (Nat.le_refl _) (.cells #[.string (bs X.data), .slice p2.a X.cache.length p2.c, .int .i64 X.fuse, .bool X.off, .slice q2.a X.bad.length q2.c] 25))
  have y1_8 := y1.alloc (.cells #[.string (bs X.data), .slice p2.a X.cache.length p2.c, .int .i64 X.fuse, .bool X.off, .slice q2.a X.bad.length q2.c] 25)
  have y1k_8 := blk5 y1_8
  have i2_9 := i2.below ((Below.refl _ _).alloc (Nat.le_refl _) (.cells #[.string (bs X.data), .slice p2.a X.cache.length p2.c, .int .i64 X.fuse, .bool X.off, .slice q2.a X.bad.length q2.c] 25))
  go_wp2_with fail
  go_at_call 28
  refine ((c5 _ hB_5)).mono ?_
  rintro e w7 ⟨⟨p3, q3, rfl, i3⟩, hb7⟩
  replace hB := bt hB_5 hb7
  replace x := x_6.below hb7 x_6.lt
  replace xk := blk5 x
  replace i1 := i1_7.below hb7
  replace y1 := y1_8.below hb7 y1_8.lt
  replace y1k := blk5 y1
  replace i2 := i2_9.below hb7
  replace y2 := y2.below hb7 y2.lt
  replace y2k := blk5 y2
  clear hB_5 xk_6 x_6 i1_7 y1k_8 y1_8 i2_9
  have y3 := Blk.new w7 25 #[.string (bs U.data), .slice p3.a U.cache.length p3.c, .int .i64 U.fuse, .bool U.off, .slice q3.a U.bad.length q3.c]
  have y3k := blk5 y3
  have hB_10 := hB.alloc hB.size (.cells #[.string (bs U.data), .slice p3.a U.cache.length p3.c, .int .i64 U.fuse, .bool U.off, .slice q3.a U.bad.length q3.c] 25)
  have x_11 := x.alloc (.cells #[.string (bs U.data), .slice p3.a U.cache.length p3.c, .int .i64 U.fuse, .bool U.off, .slice q3.a U.bad.length q3.c] 25)
  have xk_11 := blk5 x_11
  have i1_12 := i1.below ((Below.refl _ _).alloc (Nat.le_refl _) (.cells #[.string (bs U.data), .slice p3.a U.cache.length p3.c, .int .i64 U.fuse, .bool U.off, .slice q3.a U.bad.length q3.c] 25))
  have y1_13 := y1.alloc (.cells #[.string (bs U.data), .slice p3.a U.cache.length p3.c, .int .i64 U.fuse, .bool U.off, .slice q3.a U.bad.length q3.c] 25)
  have y1k_13 := blk5 y1_13
  have i2_14 := i2.below ((Below.refl _ _).alloc (Nat.le_refl _) (.cells #[.string (bs U.data), .slice p3.a U.cache.length p3.c, .int .i64 U.fuse, .bool U.off, .slice q3.a U.bad.length q3.c] 25))
  have y2_15 := y2.alloc (.cells #[.string (bs U.data), .slice p3.a U.cache.length p3.c, .int .i64 U.fuse, .bool U.off, .slice q3.a U.bad.length q3.c] 25)
  have y2k_15 := blk5 y2_15
  have i3_16 := i3.below ((Below.refl _ _).alloc (Nat.le_refl _) (.cells #[.string (bs U.data), .slice p3.a U.cache.length p3.c, .int .i64 U.fuse, .bool U.off, .slice q3.a U.bad.length q3.c] 25))
  go_wp2_with fail
  go_at_call 44
  refine ((c6 _ hB_10)).mono ?_
  rintro e w8 ⟨⟨p4, q4, rfl, i4⟩, hb8⟩
  replace hB := bt hB_10 hb8
  replace x := x_11.below hb8 x_11.lt
  replace xk := blk5 x
  replace i1 := i1_12.below hb8
  replace y1 := y1_13.below hb8 y1_13.lt
  replace y1k := blk5 y1
  replace i2 := i2_14.below hb8
  replace y2 := y2_15.below hb8 y2_15.lt
  replace y2k := blk5 y2
  replace i3 := i3_16.below hb8
  replace y3 := y3.below hb8 y3.lt
  replace y3k := blk5 y3
  clear hB_10 xk_11 x_11 i1_12 y1k_13 y1_13 i2_14 y2k_15 y2_15 i3_16
  have y4 := Blk.new w8 25 #[.string (bs U.data), .slice p4.a U.cache.length p4.c, .int .i64 U.fuse, .bool U.off, .slice q4.a U.bad.length q4.c]
  have y4k := blk5 y4
  have hB_17 := hB.alloc hB.size (.cells #[.string (bs U.data), .slice p4.a U.cache.length p4.c, .int .i64 U.fuse, .bool U.off, .slice q4.a U.bad.length q4.c] 25)
  have x_18 := x.alloc (.cells #[.string (bs U.data), .slice p4.a U.cache.length p4.c, .int .i64 U.fuse, .bool U.off, .slice q4.a U.bad.length q4.c] 25)
  have xk_18 := blk5 x_18
  have i1_19 := i1.below ((Below.refl _ _).alloc (Nat.le_refl _) (.cells #[.string (bs U.data), .slice p4.a U.cache.length p4.c, .int .i64 U.fuse, .bool U.off, .slice q4.a U.bad.length q4.c] 25))
  have y1_20 := y1.alloc (.cells #[.string (bs U.data), .slice p4.a U.cache.length p4.c, .int .i64 U.fuse, .bool U.off, .slice q4.a U.bad.length q4.c] 25)
  have y1k_20 := blk5 y1_20
  have i2_21 := i2.below ((Below.refl _ _).alloc (Nat.le_refl _) (.cells #[.string (bs U.data), .slice p4.a U.cache.length p4.c, .int .i64 U.fuse, .bool U.off, .slice q4.a U.bad.length q4.c] 25))
  have y2_22 := y2.alloc (.cells #[.string (bs U.data), .slice p4.a U.cache.length p4.c, .int .i64 U.fuse, .bool U.off, .slice q4.a U.bad.length q4.c] 25)
  have y2k_22 := blk5 y2_22
  have i3_23 := i3.below ((Below.refl _ _).alloc (Nat.le_refl _) (.cells #[.string (bs U.data), .slice p4.a U.cache.length p4.c, .int .i64 U.fuse, .bool U.off, .slice q4.a U.bad.length q4.c] 25))
  have y3_24 := y3.alloc (.cells #[.string (bs U.data), .slice p4.a U.cache.length p4.c, .int .i64 U.fuse, .bool U.off, .slice q4.a U.bad.length q4.c] 25)
  have y3k_24 := blk5 y3_24
  have i4_25 := i4.below ((Below.refl _ _).alloc (Nat.le_refl _) (.cells #[.string (bs U.data), .slice p4.a U.cache.length p4.c, .int .i64 U.fuse, .bool U.off, .slice q4.a U.bad.length q4.c] 25))
  go_wp2_with fail
  go_at_call 41
  refine ((c7 _ hB_17)).mono ?_
  rintro e w9 ⟨⟨p5, q5, rfl, i5, o5⟩, hb9⟩
  replace hB := bt hB_17 hb9
  replace x := x_18.below hb9 x_18.lt
  replace xk := blk5 x
  replace i1 := i1_19.below hb9
  replace y1 := y1_20.below hb9 y1_20.lt
  replace y1k := blk5 y1
  replace i2 := i2_21.below hb9
  replace y2 := y2_22.below hb9 y2_22.lt
  replace y2k := blk5 y2
  replace i3 := i3_23.below hb9
  replace y3 := y3_24.below hb9 y3_24.lt
  replace y3k := blk5 y3
  replace i4 := i4_25.below hb9
  replace y4 := y4.below hb9 y4.lt
  replace y4k := blk5 y4
  clear hB_17 xk_18 x_18 i1_19 y1k_20 y1_20 i2_21 y2k_22 y2_22 i3_23 y3k_24 y3_24 i4_25
  have y5 := Blk.new w9 25 #[.string (bs P.data), .slice p5.a P.cache.length p5.c, .int .i64 P.fuse, .bool P.off, .slice q5.a P.bad.length q5.c]
  have y5k := blk5 y5
  have hB_26 := hB.alloc hB.size (.cells #[.string (bs P.data), .slice p5.a P.cache.length p5.c, .int .i64 P.fuse, .bool P.off, .slice q5.a P.bad.length q5.c] 25)
  have x_27 := x.alloc (.cells #[.string (bs P.data), .slice p5.a P.cache.length p5.c, .int .i64 P.fuse, .bool P.off, .slice q5.a P.bad.length q5.c] 25)
  have xk_27 := blk5 x_27
  have i1_28 := i1.below ((Below.refl _ _).alloc (Nat.le_refl _) (.cells #[.string (bs P.data), .slice p5.a P.cache.length p5.c, .int .i64 P.fuse, .bool P.off, .slice q5.a P.bad.length q5.c] 25))
  have y1_29 := y1.alloc (.cells #[.string (bs P.data), .slice p5.a P.cache.length p5.c, .int .i64 P.fuse, .bool P.off, .slice q5.a P.bad.length q5.c] 25)
  have y1k_29 := blk5 y1_29
  have i2_30 := i2.below ((Below.refl _ _).alloc (Nat.le_refl _) (.cells #[.string (bs P.data), .slice p5.a P.cache.length p5.c, .int .i64 P.fuse, .bool P.off, .slice q5.a P.bad.length q5.c] 25))
  have y2_31 := y2.alloc (.cells #[.string (bs P.data), .slice p5.a P.cache.length p5.c, .int .i64 P.fuse, .bool P.off, .slice q5.a P.bad.length q5.c] 25)
  have y2k_31 := blk5 y2_31
  have i3_32 := i3.below ((Below.refl _ _).alloc (Nat.le_refl _) (.cells #[.string (bs P.data), .slice p5.a P.cache.length p5.c, .int .i64 P.fuse, .bool P.off, .slice q5.a P.bad.length q5.c] 25))
  have y3_33 := y3.alloc (.cells #[.string (bs P.data), .slice p5.a P.cache.length p5.c, .int .i64 P.fuse, .bool P.off, .slice q5.a P.bad.length q5.c] 25)
  have y3k_33 := blk5 y3_33
  have i4_34 := i4.below ((Below.refl _ _).alloc (Nat.le_refl _) (.cells #[.string (bs P.data), .slice p5.a P.cache.length p5.c, .int .i64 P.fuse, .bool P.off, .slice q5.a P.bad.length q5.c] 25))
  have y4_35 := y4.alloc (.cells #[.string (bs P.data), .slice p5.a P.cache.length p5.c, .int .i64 P.fuse, .bool P.off, .slice q5.a P.bad.length q5.c] 25)
  have y4k_35 := blk5 y4_35
  have i5_36 := i5.below ((Below.refl _ _).alloc (Nat.le_refl _) (.cells #[.string (bs P.data), .slice p5.a P.cache.length p5.c, .int .i64 P.fuse, .bool P.off, .slice q5.a P.bad.length q5.c] 25))
  go_wp2_with fail
  go_at_call 45
  refine ((c8 _ hB_26)).mono ?_
  rintro e w10 ⟨⟨p6, q6, rfl, i6, o6⟩, hb10⟩
  replace hB := bt hB_26 hb10
  replace x := x_27.below hb10 x_27.lt
  replace xk := blk5 x
  replace i1 := i1_28.below hb10
  replace y1 := y1_29.below hb10 y1_29.lt
  replace y1k := blk5 y1
  replace i2 := i2_30.below hb10
  replace y2 := y2_31.below hb10 y2_31.lt
  replace y2k := blk5 y2
  replace i3 := i3_32.below hb10
  replace y3 := y3_33.below hb10 y3_33.lt
  replace y3k := blk5 y3
  replace i4 := i4_34.below hb10
  replace y4 := y4_35.below hb10 y4_35.lt
  replace y4k := blk5 y4
  replace i5 := i5_36.below hb10
  replace y5 := y5.below hb10 y5.lt
  replace y5k := blk5 y5
  clear hB_26 xk_27 x_27 i1_28 y1k_29 y1_29 i2_30 y2k_31 y2_31 i3_32 y3k_33 y3_33 i4_34 y4k_35 y4_35 i5_36
  have y6 := Blk.new w10 25 #[.string (bs P.data), .slice p6.a P.cache.length p6.c, .int .i64 P.fuse, .bool P.off, .slice q6.a P.bad.length q6.c]
  have y6k := blk5 y6
  have hB_37 := hB.alloc hB.size (.cells #[.string (bs P.data), .slice p6.a P.cache.length p6.c, .int .i64 P.fuse, .bool P.off, .slice q6.a P.bad.length q6.c] 25)
  have x_38 := x.alloc (.cells #[.string (bs P.data), .slice p6.a P.cache.length p6.c, .int .i64 P.fuse, .bool P.off, .slice q6.a P.bad.length q6.c] 25)
  have xk_38 := blk5 x_38
  have i1_39 := i1.below ((Below.refl _ _).alloc (Nat.le_refl _) (.cells #[.string (bs P.data), .slice p6.a P.cache.length p6.c, .int .i64 P.fuse, .bool P.off, .slice q6.a P.bad.length q6.c] 25))
  have y1_40 := y1.alloc (.cells #[.string (bs P.data), .slice p6.a P.cache.length p6.c, .int .i64 P.fuse, .bool P.off, .slice q6.a P.bad.length q6.c] 25)
  have y1k_40 := blk5 y1_40
  have i2_41 := i2.below ((Below.refl _ _).alloc (Nat.le_refl _) (.cells #[.string (bs P.data), .slice p6.a P.cache.length p6.c, .int .i64 P.fuse, .bool P.off, .slice q6.a P.bad.length q6.c] 25))
  have y2_42 := y2.alloc (.cells #[.string (bs P.data), .slice p6.a P.cache.length p6.c, .int .i64 P.fuse, .bool P.off, .slice q6.a P.bad.length q6.c] 25)
  have y2k_42 := blk5 y2_42
  have i3_43 := i3.below ((Below.refl _ _).alloc (Nat.le_refl _) (.cells #[.string (bs P.data), .slice p6.a P.cache.length p6.c, .int .i64 P.fuse, .bool P.off, .slice q6.a P.bad.length q6.c] 25))
  have y3_44 := y3.alloc (.cells #[.string (bs P.data), .slice p6.a P.cache.length p6.c, .int .i64 P.fuse, .bool P.off, .slice q6.a P.bad.length q6.c] 25)
  have y3k_44 := blk5 y3_44
  have i4_45 := i4.below ((Below.refl _ _).alloc (Nat.le_refl _) (.cells #[.string (bs P.data), .slice p6.a P.cache.length p6.c, .int .i64 P.fuse, .bool P.off, .slice q6.a P.bad.length q6.c] 25))
  have y4_46 := y4.alloc (.cells #[.string (bs P.data), .slice p6.a P.cache.length p6.c, .int .i64 P.fuse, .bool P.off, .slice q6.a P.bad.length q6.c] 25)
  have y4k_46 := blk5 y4_46
  have i5_47 := i5.below ((Below.refl _ _).alloc (Nat.le_refl _) (.cells #[.string (bs P.data), .slice p6.a P.cache.length p6.c, .int .i64 P.fuse, .bool P.off, .slice q6.a P.bad.length q6.c] 25))
  have y5_48 := y5.alloc (.cells #[.string (bs P.data), .slice p6.a P.cache.length p6.c, .int .i64 P.fuse, .bool P.off, .slice q6.a P.bad.length q6.c] 25)
  have y5k_48 := blk5 y5_48
  have i6_49 := i6.below ((Below.refl _ _).alloc (Nat.le_refl _) (.cells #[.string (bs P.data), .slice p6.a P.cache.length p6.c, .int .i64 P.fuse, .bool P.off, .slice q6.a P.bad.length q6.c] 25))
  go_wp2_with fail
  go_at_call 26
  refine ((sX _ p1 q1 p2 q2 i1_39 i2_41)).mono ?_
  rintro e w11 ⟨rfl, hb11⟩
  replace hB := bt hB_37 hb11
  replace x := x_38.below hb11 x_38.lt
  replace xk := blk5 x
  replace i1 := i1_39.below hb11
  replace y1 := y1_40.below hb11 y1_40.lt
  replace y1k := blk5 y1
  replace i2 := i2_41.below hb11
  replace y2 := y2_42.below hb11 y2_42.lt
  replace y2k := blk5 y2
  replace i3 := i3_43.below hb11
  replace y3 := y3_44.below hb11 y3_44.lt
  replace y3k := blk5 y3
  replace i4 := i4_45.below hb11
  replace y4 := y4_46.below hb11 y4_46.lt
  replace y4k := blk5 y4
  replace i5 := i5_47.below hb11
  replace y5 := y5_48.below hb11 y5_48.lt
  replace y5k := blk5 y5
  replace i6 := i6_49.below hb11
  replace y6 := y6.below hb11 y6.lt
  replace y6k := blk5 y6
  clear hB_37 xk_38 x_38 i1_39 y1k_40 y1_40 i2_41 y2k_42 y2_42 i3_43 y3k_44 y3_44 i4_45 y4k_46 y4_46 i5_47 y5k_48 y5_48 i6_49
  go_wp2_with fail
  go_at_call 26
  refine ((sU _ p3 q3 p4 q4 i3 i4)).mono ?_
  rintro e w12 ⟨rfl, hb12⟩
  replace hB := bt hB hb12
  replace x := x.below hb12 x.lt
  replace xk := blk5 x
  replace i1 := i1.below hb12
  replace y1 := y1.below hb12 y1.lt
  replace y1k := blk5 y1
  replace i2 := i2.below hb12
  replace y2 := y2.below hb12 y2.lt
  replace y2k := blk5 y2
  replace i3 := i3.below hb12
  replace y3 := y3.below hb12 y3.lt
  replace y3k := blk5 y3
  replace i4 := i4.below hb12
  replace y4 := y4.below hb12 y4.lt
  replace y4k := blk5 y4
  replace i5 := i5.below hb12
  replace y5 := y5.below hb12 y5.lt
  replace y5k := blk5 y5
  replace i6 := i6.below hb12
  replace y6 := y6.below hb12 y6.lt
  replace y6k := blk5 y6
  go_wp2_with fail
  go_at_call 26
  refine ((sP _ p5 q5 p6 q6 i5 i6)).mono ?_
  rintro e V ⟨rfl, hb13⟩
  replace hB := bt hB hb13
  replace x := x.below hb13 x.lt
  replace xk := blk5 x
  replace i1 := i1.below hb13
  replace y1 := y1.below hb13 y1.lt
  replace y1k := blk5 y1
  replace i2 := i2.below hb13
  replace y2 := y2.below hb13 y2.lt
  replace y2k := blk5 y2
  replace i3 := i3.below hb13
  replace y3 := y3.below hb13 y3.lt
  replace y3k := blk5 y3
  replace i4 := i4.below hb13
  replace y4 := y4.below hb13 y4.lt
  replace y4k := blk5 y4
  replace i5 := i5.below hb13
  replace y5 := y5.below hb13 y5.lt
  replace y5k := blk5 y5
  replace i6 := i6.below hb13
  replace y6 := y6.below hb13 y6.lt
  replace y6k := blk5 y6
  clear y1 y1k y2 y2k y3 y3k y4 y4k y5 y5k y6 y6k i1 i2 i3 i4 i5 i6 c1 c2 c3' c4 c5 c6 c7 c8 sX sU sP hL hFt
  go_wp2_with fail
  have X := ext5 x
  have d1 := fun e : Ext V => e1 e.world (bt hB e.below)
  have d2 := fun e : Ext V => e2 e.world (bt hB e.below)
  have d3 := fun e : Ext V => e3 e.world (bt hB e.below)
  have d4 := fun e : Ext V => e4 e.world (bt hB e.below)
  have d5 := fun e : Ext V => e5 e.world
  have d6 := fun e : Ext V => e6 e.world
  have d7 := fun e : Ext V => sR e.world (bt hB e.below)
  have d8 := fun e : Ext V => sC e.world (bt hB e.below)
  clear e1 e2 e3 e4 e5 e6 sR sC
  refine wp_region_ext mixed (by kernel_rfl) ?_
  repeat (go_big_quiet_step ((first | (go_at_call 46; with_reducible exact ext_of (d1 _)) | (go_at_call 47; with_reducible exact ext_of (d2 _)) | (go_at_call 22; with_reducible exact ext_of (d3 _)) | (go_at_call 48; with_reducible exact ext_of (d4 _)) | (go_at_call 49; with_reducible exact ext_of (d5 _)) | (go_at_call 23; with_reducible exact ext_of (d6 _)) | (go_at_call 26; with_reducible (first | exact ext_of (d7 _) | exact ext_of (d8 _))) | (go_at_call 21; with_reducible exact ext_of (awake01 _)))))
  refine wpQuiet_nil ?_
  rintro W ⟨pq_, hpq_⟩
  have hW := pq_.below
  rw [← hpq_] at hW
  clear hpq_ pq_
  go_wp2_with fail
  go_ret
  exact ⟨rfl, bt hB hW⟩
theorem walk (w : World) (D : Dk) (p q : Pl) (h0 : IsDk0 w D p q) (k : Int) (wk : (Lit.int .i64 k).wf = true) (s0 : ByteArray) (ws : s0.size ≤ maxLen) (n : Int) (wn : (Lit.int .i64 n).wf = true) (A3 : Option Addr) (c3 : Nat) (ks : List Bool)
    (h3 : Cells w A3 (boolCells ks) ∧ (A3 = none → c3 = 0) ∧ ks.length ≤ c3 ∧ c3 ≤ maxLen ∧ ∀ x ∈ ks, True) :
    Calls Try.prog 12 #[dval D p q, .int .i64 k, .string s0, .int .i64 n, .slice A3 ks.length c3] w fun e w' => e = .returned (.bool true) ∧ Below w.heap.size w w' := by
  obtain ⟨s, rfl⟩ := bs_of s0
  rw [bs_size] at ws
  obtain ⟨hks, _, hk1, hk2, _⟩ := h3
  by_cases hl : light D = true
  · obtain ⟨l1, l2, l3⟩ := light_of hl
    have hD := h0.full (by omega) (by omega) (by omega)
    by_cases hf : D.fit = true
    · exact walk_ok D p q k s n A3 ks c3 w hD hl hf (okInt_of wk) (okInt_of wn) ws hks (Nat.le_trans hk1 hk2)
    · exact walk_unfit D p q k s n A3 _ c3 w hD hl (by simpa using hf)
  · exact walk_heavy D p q k s n A3 _ c3 w h0 (by simpa using hl)
/-! ### The row -/
theorem own : ownKnob Try.prog.godebug = none := by kernel_rfl
set_option maxRecDepth 100000 in
theorem lifted (os : Os) (started : os.Started) (H : Type) (enc : TypeId × Value → H) :
    ReturnsInHanded {} Try.checked os 12 .any (Rows.devDoesSpec.pre6 enc Try.prog Try.f12 Rows.devDoesRow.domain false) (Rows.devDoesSpec.post enc Try.prog Try.f12 false true false false) := by
  refine returnsInHanded_of_change (C := Try.checked) own started (by kernel_rfl) Try.func12
    (ChangeSpec.witness6 (enc := enc) (C := Try.checked) false ⟨#[], #[.agg #[.string ByteArray.empty, .slice none 0 0, .int .i64 0, .bool false, .slice none 0 0], .int .i64 0, .string ByteArray.empty, .int .i64 0, .slice none 0 0], []⟩ 8 (by kernel_rfl) (by kernel_rfl) (by kernel_rfl) (by kernel_rfl)) ?_
  intro W base args ds gs before hval0 hW hcnd _
  have hval : ∀ (j : Nat) t v, Try.f12.params[j]? = some t → args[j]? = some v → Value.okWide Try.prog W .any base t v := hval0
  have hW' := hW
  obtain ⟨p, q, hA0, hV, rfl, hfz, hnd⟩ := hW
  have hA : DataW.TrodAll enc Try.prog W 0 (fun _ => true) true Try.f12.params.toList args.toList ds p := hA0
  have hAk := hA
  rw [Try.params12] at hA hval
  obtain ⟨v0, vs0, d0, ds0, p0, q0, hargs, rfl, rfl, h0, r0⟩ := trodAll_cons hA
  obtain ⟨v1, vs1, d1, ds1, p1, q1, rfl, rfl, rfl, h1, r1⟩ := trodAll_cons r0
  obtain ⟨v2, vs2, d2, ds2, p2, q2, rfl, rfl, rfl, h2, r2⟩ := trodAll_cons r1
  obtain ⟨v3, vs3, d3, ds3, p3, q3, rfl, rfl, rfl, h3, r3⟩ := trodAll_cons r2
  obtain ⟨v4, vs4, d4, ds4, p4, q4, rfl, rfl, rfl, h4, r4⟩ := trodAll_cons r3
  obtain ⟨rfl, rfl, rfl⟩ := trodAll_nil r4
  obtain rfl : args = #[v0, v1, v2, v3, v4] := by cases args; simp_all
  obtain ⟨rfl, rfl⟩ := trodVars_none hV
  obtain ⟨D0, P0, Q0, rfl, w0⟩ := open_dk Try.underlying25 (by kernel_rfl) (by kernel_rfl) Try.underlying9 Try.underlying22 Try.underlying3 Try.underlying4 Try.underlying23 Try.underlying45 (by kernel_rfl) (by kernel_rfl) Try.underlying3 Try.underlying9 Try.underlying3 (by kernel_rfl) (hval 0 25 v0 rfl rfl) h0
  obtain ⟨a1, rfl, rfl, rfl, w1⟩ := open_int Try.underlying3 (hval 1 3 v1 rfl rfl) h1
  obtain ⟨a2, rfl, rfl, rfl, w2⟩ := open_string Try.underlying9 (hval 2 9 v2 rfl rfl) h2
  obtain ⟨a3, rfl, rfl, rfl, w3⟩ := open_int Try.underlying3 (hval 3 3 v3 rfl rfl) h3
  obtain ⟨A4, n4, c4, rfl⟩ := okWide_slice Try.underlying40 (hval 4 40 v4 rfl rfl)
  obtain ⟨_, h4'⟩ := h4
  obtain ⟨B4, e4, l4, hB4, w4⟩ := open_bools Try.underlying40 Try.underlying4 (by kernel_rfl) h4'
  rw [hB4] at hW' hAk ⊢
  clear hA0 hval0
  simp only [List.append_nil] at hW'
  refine (walk W D0 P0 Q0 w0 a1 w1 a2 w2 a3 w3 B4 e4 l4 w4).mono fun e W' ⟨he, hb⟩ => ?_
  subst he
  exact ⟨_, rfl, post_of_below (pa := _) (pv := []) hW' (fun _ _ _ => (trodAll_cons_mk (shut_bool Try.underlying4 _) trodAll_mk0)) (fun sp hsp => trodAll_stays (by kernel_rfl) hb (by kernel_rfl) hAk (fun x hx => hW'.lt x (by simpa using hx)) (fun x hx => hsp x (by simpa using hx))) (fun _ _ => rfl) (by simp) hb (ok_one (by kernel_rfl) rfl (okWide_bool_mk Try.underlying4 _))⟩
theorem over_ : Rows.devDoesRow.holds Try.pinned (OpenSpec.ofChange Rows.devDoesSpec) :=
  OpenClaim.holds_of_wide 12 Try.f12 rfl rfl rfl rfl rfl rfl rfl ⟨rfl, rfl, rfl, rfl, rfl⟩ rfl rfl rfl rfl rfl (by kernel_rfl) Try.func12 (by kernel_rfl)
    (of_decide_eq_true (by kernel_rfl)) (by unfold Func.isWrapper; first | (rw [if_pos (by decide +kernel)]; kernel_rfl) | (rw [if_neg (by decide +kernel)]; exact ⟨rfl, rfl⟩))
    (fun os started H enc _ => lifted os started H enc)
/-- The statement. -/
theorem proved : Rows.DevDoesSaid := over_
#print axioms proved
end Go.Proofs.Ytjpjpiejcpeepaa.devDoes
