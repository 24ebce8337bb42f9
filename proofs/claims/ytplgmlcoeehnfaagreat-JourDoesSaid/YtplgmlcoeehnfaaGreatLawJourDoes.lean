/- JourDoes: what a device is behind a plan that is made to last, what stands in a journal, and what it is behind a replay, is the document's: any fit device of few writes, any journal's place, any plan. No condition. -/
import Derived.Test.YtplgmlcoeehnfaaGreatLaw07b
import Derived.Test.YtplgmlcoeehnfaaGreatPlan6
import Derived.Test.YtplgmlcoeehnfaaGreatJour4
import Derived.Test.YtplgmlcoeehnfaaGreatJour13
import Derived.Test.YtplgmlcoeehnfaaGreatJour15
set_option linter.unusedVariables false
namespace Go.Proofs.YtplgmlcoeehnfaaGreat.jourDoes
open Go.RowKit Go.Shelf Go.WideShapes Go.ChangeShapes Go.ChangeAt
open Go.ChangeMaps (open_string shut_string)
attribute [local go_sem] bs_mk bs_append bs_extract bs_size bs_toList bs_get
/-- A row of what was found. -/
structure FdV (B : Nat) (l : List Fd) (v : Value) (w : World) : Prop where
  own : w.ownsRow B 94 4 v l.length (fdCells l)
  ok : FdsOk w l
theorem FdV.below {B : Nat} {l : List Fd} {v : Value} {w w' : World} (h : FdV B l v w) (hb : Below w.heap.size w w') : FdV B l v w' := ⟨own_later h.own hb, h.ok.below hb⟩
set_option maxRecDepth 100000 in
theorem walk_no (D : Dk) (s : Nat) (k : Int) (L : Pn) (p q p' q' : Pl) (w : World) (h0 : IsDk0 w D p q) (hbl : D.bad.length ≤ 17592186044416) (hs : s < 18446744073709551616) (hk : okInt k) (hL : IsPn w L p' q') (hg : ¬ (good7 D = true ∧ jrFit ⟨s, k⟩ = true ∧ L.fit = true)) :
    Calls Tryz.prog 10 #[dval D p q, .agg #[.int .u64 s, .int .i64 k], pval L p' q'] w fun e w' => e = .returned (.bool true) ∧ Below w.heap.size w w' := by
  have hG := fun (W : World) (hb : Below w.heap.size w W) => good07 D p q W (h0.below hb) hbl
  have hF := fun W => r7_fit ⟨s, k⟩ hs hk W
  have hP := fun (W : World) (hb : Below w.heap.size w W) => r5_fit L p' q' W (hL.below hb)
  clear h0 hL
  obtain ⟨A1, a1⟩ := p
  obtain ⟨A2, a2⟩ := q
  obtain ⟨B1, b1⟩ := p'
  obtain ⟨B2, b2⟩ := q'
  have hB := Below.refl w.heap.size w
  have x := Blk.new w 25 #[.string (bs D.data), .slice A1 D.cache.length a1, .int .i64 D.fuse, .bool D.off, .slice A2 D.bad.length a2]
  have xk := blk5 x
  have hB_1 := hB.alloc hB.size (.cells #[.string (bs D.data), .slice A1 D.cache.length a1, .int .i64 D.fuse, .bool D.off, .slice A2 D.bad.length a2] 25)
  have j := Blk.new (w.alloc (.cells #[.string (bs D.data), .slice A1 D.cache.length a1, .int .i64 D.fuse, .bool D.off, .slice A2 D.bad.length a2] 25)) 72 #[.int .u64 s, .int .i64 k]
  simp only [World.size_alloc] at j
  have jk := blk2 j
  have hB_2 := hB_1.alloc hB_1.size (.cells #[.int .u64 s, .int .i64 k] 72)
  have x_3 := x.alloc (.cells #[.int .u64 s, .int .i64 k] 72)
  have xk_3 := blk5 x_3
  have z := Blk.new ((w.alloc (.cells #[.string (bs D.data), .slice A1 D.cache.length a1, .int .i64 D.fuse, .bool D.off, .slice A2 D.bad.length a2] 25)).alloc (.cells #[.int .u64 s, .int .i64 k] 72)) 28 #[.slice B1 L.targets.length b1, .slice B2 L.data.length b2]
  simp only [World.size_alloc] at z
  have zk := blk2 z
  have hB_4 := hB_2.alloc hB_2.size (.cells #[.slice B1 L.targets.length b1, .slice B2 L.data.length b2] 28)
  have x_5 := x_3.alloc (.cells #[.slice B1 L.targets.length b1, .slice B2 L.data.length b2] 28)
  have xk_5 := blk5 x_5
  have j_6 := j.alloc (.cells #[.slice B1 L.targets.length b1, .slice B2 L.data.length b2] 28)
  have jk_6 := blk2 j_6
  cases h1 : good7 D with
  | false =>
    rw [h1] at hG
    clear hg
    go_enter Tryz.func10, Tryz.ntmps10
    go_wp2_with fail
    go_at_call 37
    refine ((hG _ hB_4)).mono ?_
    rintro e w1 ⟨rfl, hb1⟩
    replace hB := bt hB_4 hb1
    replace x := x_5.below hb1 x_5.lt
    replace xk := blk5 x
    replace j := j_6.below hb1 j_6.lt
    replace jk := blk2 j
    replace z := z.below hb1 z.lt
    replace zk := blk2 z
    clear hB_1 hB_2 xk_3 x_3 hB_4 xk_5 x_5 jk_6 j_6
    go_wp2_with fail
    go_at_call 32
    refine ((awake07 _)).mono ?_
    rintro e w2 ⟨rfl, hb2⟩
    replace hB := bt hB hb2
    replace x := x.below hb2 x.lt
    replace xk := blk5 x
    replace j := j.below hb2 j.lt
    replace jk := blk2 j
    replace z := z.below hb2 z.lt
    replace zk := blk2 z
    go_wp2_with fail
    go_ret
    exact ⟨rfl, hB⟩
  | true =>
    rw [h1] at hG hg
    cases h2 : jrFit ⟨s, k⟩ with
    | false =>
      rw [h2] at hF
      clear hg
      go_enter Tryz.func10, Tryz.ntmps10
      go_wp2_with fail
      go_at_call 37
      refine ((hG _ hB_4)).mono ?_
      rintro e w1 ⟨rfl, hb1⟩
      replace hB := bt hB_4 hb1
      replace x := x_5.below hb1 x_5.lt
      replace xk := blk5 x
      replace j := j_6.below hb1 j_6.lt
      replace jk := blk2 j
      replace z := z.below hb1 z.lt
      replace zk := blk2 z
      clear hB_1 hB_2 xk_3 x_3 hB_4 xk_5 x_5 jk_6 j_6
      go_wp2_with fail
      go_at_call 35
      refine ((hF _)).mono ?_
      rintro e w2 ⟨rfl, hb2⟩
      replace hB := bt hB hb2
      replace x := x.below hb2 x.lt
      replace xk := blk5 x
      replace j := j.below hb2 j.lt
      replace jk := blk2 j
      replace z := z.below hb2 z.lt
      replace zk := blk2 z
      go_wp2_with fail
      go_at_call 32
      refine ((awake07 _)).mono ?_
      rintro e w3 ⟨rfl, hb3⟩
      replace hB := bt hB hb3
      replace x := x.below hb3 x.lt
      replace xk := blk5 x
      replace j := j.below hb3 j.lt
      replace jk := blk2 j
      replace z := z.below hb3 z.lt
      replace zk := blk2 z
      go_wp2_with fail
      go_ret
      exact ⟨rfl, hB⟩
    | true =>
      rw [h2] at hF hg
      have h3 : L.fit = false := by simpa using hg
      rw [h3] at hP
      clear hg
      go_enter Tryz.func10, Tryz.ntmps10
      go_wp2_with fail
      go_at_call 37
      refine ((hG _ hB_4)).mono ?_
      rintro e w1 ⟨rfl, hb1⟩
      replace hB := bt hB_4 hb1
      replace x := x_5.below hb1 x_5.lt
      replace xk := blk5 x
      replace j := j_6.below hb1 j_6.lt
      replace jk := blk2 j
      replace z := z.below hb1 z.lt
      replace zk := blk2 z
      clear hB_1 hB_2 xk_3 x_3 hB_4 xk_5 x_5 jk_6 j_6
      go_wp2_with fail
      go_at_call 35
      refine ((hF _)).mono ?_
      rintro e w2 ⟨rfl, hb2⟩
      replace hB := bt hB hb2
      replace x := x.below hb2 x.lt
      replace xk := blk5 x
      replace j := j.below hb2 j.lt
      replace jk := blk2 j
      replace z := z.below hb2 z.lt
      replace zk := blk2 z
      go_wp2_with fail
      go_at_call 18
      refine ((hP _ hB)).mono ?_
      rintro e w3 ⟨rfl, hb3⟩
      replace hB := bt hB hb3
      replace x := x.below hb3 x.lt
      replace xk := blk5 x
      replace j := j.below hb3 j.lt
      replace jk := blk2 j
      replace z := z.below hb3 z.lt
      replace zk := blk2 z
      go_wp2_with fail
      go_at_call 32
      refine ((awake07 _)).mono ?_
      rintro e w4 ⟨rfl, hb4⟩
      replace hB := bt hB hb4
      replace x := x.below hb4 x.lt
      replace xk := blk5 x
      replace j := j.below hb4 j.lt
      replace jk := blk2 j
      replace z := z.below hb4 z.lt
      replace zk := blk2 z
      go_wp2_with fail
      go_ret
      exact ⟨rfl, hB⟩
set_option maxRecDepth 100000 in
set_option maxHeartbeats 1000000 in
theorem walk_ok (D : Dk) (s : Nat) (k : Int) (L : Pn) (p q p' q' : Pl) (w : World) (h0 : IsDk0 w D p q) (hbl : D.bad.length ≤ 17592186044416) (hs : s < 18446744073709551616) (hk : okInt k) (hL : IsPn w L p' q') (hg : good7 D = true) (hjf : jrFit ⟨s, k⟩ = true) (hpf : L.fit = true) :
    Calls Tryz.prog 10 #[dval D p q, .agg #[.int .u64 s, .int .i64 k], pval L p' q'] w fun e w' => e = .returned (.bool true) ∧ Below w.heap.size w w' := by
  obtain ⟨g1, g2, g3, g4⟩ := good7_iff.1 hg
  have hD := h0.full (by omega) hbl (by omega)
  have hG := fun (W : World) (hb : Below w.heap.size w W) => good07 D p q W (h0.below hb) hbl
  have hF := fun W => r7_fit ⟨s, k⟩ hs hk W
  have hP := fun (W : World) (hb : Below w.heap.size w W) => r5_fit L p' q' W (hL.below hb)
  rw [hg] at hG
  rw [hjf] at hF
  rw [hpf] at hP
  have hfl := Pn.fit_iff.1 hpf
  have h1 := fun (W : World) (hb : Below w.heap.size w W) => j_commit D ⟨s, k⟩ L p q p' q' W (hD.below hb) (hL.below hb) g3 hfl hs hk
  have h2 := fun (W : World) (hb : Below w.heap.size w W) => r7_commit D ⟨s, k⟩ L p q p' q' W (hD.below hb) (hL.below hb) g3 hfl hs hk
  have h3 := fun (W : World) (hb : Below w.heap.size w W) => j_scan D p q W (hD.below hb) g3
  have h4 := fun (W : World) (hb : Below w.heap.size w W) => r7_scan D p q W (hD.below hb) g3
  have h5 := fun (W : World) (hb : Below w.heap.size w W) => j_replay D p q W (hD.below hb) g3
  have h6 := fun (W : World) (hb : Below w.heap.size w W) => r7_replay D p q W (hD.below hb) g3
  have Hfit := hid (fun (x : Nat × Tx) (h : x ∈ (jrScan D).1) => jrScan_ok h)
  have Hlen := hid (jrScan_len D)
  generalize jrCommit D ⟨s, k⟩ L = X at h1 h2
  generalize jrScan D = F at h3 h4 Hfit Hlen
  generalize jrReplay D = Y at h5 h6
  obtain ⟨X, ⟨xs, xp⟩, xe⟩ := X
  obtain ⟨F, fe⟩ := F
  obtain ⟨Y, ⟨ys, yp⟩, ye⟩ := Y
  have hsX := fun (W : World) (p1 q1 p2 q2 : Pl) (h : IsDk W X p1 q1) (h' : IsDk W X p2 q2) => r1_same X X p1 q1 p2 q2 W h h'
  rw [Dk.same_self] at hsX
  have hsY := fun (W : World) (p1 q1 p2 q2 : Pl) (h : IsDk W Y p1 q1) (h' : IsDk W Y p2 q2) => r1_same Y Y p1 q1 p2 q2 W h h'
  rw [Dk.same_self] at hsY
  clear h0 hL hg hD g1 g2 g3 g4 hjf hpf hfl
  obtain ⟨A1, a1⟩ := p
  obtain ⟨A2, a2⟩ := q
  obtain ⟨B1, b1⟩ := p'
  obtain ⟨B2, b2⟩ := q'
  have hB := Below.refl w.heap.size w
  have x := Blk.new w 25 #[.string (bs D.data), .slice A1 D.cache.length a1, .int .i64 D.fuse, .bool D.off, .slice A2 D.bad.length a2]
  have xk := blk5 x
  have hB_1 := hB.alloc hB.size (.cells #[.string (bs D.data), .slice A1 D.cache.length a1, .int .i64 D.fuse, .bool D.off, .slice A2 D.bad.length a2] 25)
  have j := Blk.new (w.alloc (.cells #[.string (bs D.data), .slice A1 D.cache.length a1, .int .i64 D.fuse, .bool D.off, .slice A2 D.bad.length a2] 25)) 72 #[.int .u64 s, .int .i64 k]
  simp only [World.size_alloc] at j
  have jk := blk2 j
  have hB_2 := hB_1.alloc hB_1.size (.cells #[.int .u64 s, .int .i64 k] 72)
  have x_3 := x.alloc (.cells #[.int .u64 s, .int .i64 k] 72)
  have xk_3 := blk5 x_3
  have z := Blk.new ((w.alloc (.cells #[.string (bs D.data), .slice A1 D.cache.length a1, .int .i64 D.fuse, .bool D.off, .slice A2 D.bad.length a2] 25)).alloc (.cells #[.int .u64 s, .int .i64 k] 72)) 28 #[.slice B1 L.targets.length b1, .slice B2 L.data.length b2]
  simp only [World.size_alloc] at z
  have zk := blk2 z
  have hB_4 := hB_2.alloc hB_2.size (.cells #[.slice B1 L.targets.length b1, .slice B2 L.data.length b2] 28)
  have x_5 := x_3.alloc (.cells #[.slice B1 L.targets.length b1, .slice B2 L.data.length b2] 28)
  have xk_5 := blk5 x_5
  have j_6 := j.alloc (.cells #[.slice B1 L.targets.length b1, .slice B2 L.data.length b2] 28)
  have jk_6 := blk2 j_6
  go_enter Tryz.func10, Tryz.ntmps10
  go_wp2_with fail
  go_at_call 37
  refine ((hG _ hB_4)).mono ?_
  rintro e w1 ⟨rfl, hb1⟩
  replace hB := bt hB_4 hb1
  replace x := x_5.below hb1 x_5.lt
  replace xk := blk5 x
  replace j := j_6.below hb1 j_6.lt
  replace jk := blk2 j
  replace z := z.below hb1 z.lt
  replace zk := blk2 z
  clear hB_1 hB_2 xk_3 x_3 hB_4 xk_5 x_5 jk_6 j_6
  go_wp2_with fail
  go_at_call 35
  refine ((hF _)).mono ?_
  rintro e w2 ⟨rfl, hb2⟩
  replace hB := bt hB hb2
  replace x := x.below hb2 x.lt
  replace xk := blk5 x
  replace j := j.below hb2 j.lt
  replace jk := blk2 j
  replace z := z.below hb2 z.lt
  replace zk := blk2 z
  go_wp2_with fail
  go_at_call 18
  refine ((hP _ hB)).mono ?_
  rintro e w3 ⟨rfl, hb3⟩
  replace hB := bt hB hb3
  replace x := x.below hb3 x.lt
  replace xk := blk5 x
  replace j := j.below hb3 j.lt
  replace jk := blk2 j
  replace z := z.below hb3 z.lt
  replace zk := blk2 z
  go_wp2_with fail
  go_at_call 38
  refine ((h1 _ hB)).mono ?_
  rintro e w4 ⟨⟨p1, q1, rfl, i1, o1⟩, hb4⟩
  replace hB := bt hB hb4
  replace x := x.below hb4 x.lt
  replace xk := blk5 x
  replace j := j.below hb4 j.lt
  replace jk := blk2 j
  replace z := z.below hb4 z.lt
  replace zk := blk2 z
  have a := Blk.new w4 25 #[.string (bs X.data), .slice p1.a X.cache.length p1.c, .int .i64 X.fuse, .bool X.off, .slice q1.a X.bad.length q1.c]
  have ak := blk5 a
  have hB_7 := hB.alloc hB.size (.cells #[.string (bs X.data), .slice p1.a X.cache.length p1.c, .int .i64 X.fuse, .bool X.off, .slice q1.a X.bad.length q1.c] 25)
  have x_8 := x.alloc (.cells #[.string (bs X.data), .slice p1.a X.cache.length p1.c, .int .i64 X.fuse, .bool X.off, .slice q1.a X.bad.length q1.c] 25)
  have xk_8 := blk5 x_8
  have j_9 := j.alloc (.cells #[.string (bs X.data), .slice p1.a X.cache.length p1.c, .int .i64 X.fuse, .bool X.off, .slice q1.a X.bad.length q1.c] 25)
  have jk_9 := blk2 j_9
  have z_10 := z.alloc (.cells #[.string (bs X.data), .slice p1.a X.cache.length p1.c, .int .i64 X.fuse, .bool X.off, .slice q1.a X.bad.length q1.c] 25)
  have zk_10 := blk2 z_10
  have i1_11 := i1.below ((Below.refl _ _).alloc (Nat.le_refl _) (.cells #[.string (bs X.data), .slice p1.a X.cache.length p1.c, .int .i64 X.fuse, .bool X.off, .slice q1.a X.bad.length q1.c] 25))
  have b := Blk.new (w4.alloc (.cells #[.string (bs X.data), .slice p1.a X.cache.length p1.c, .int .i64 X.fuse, .bool X.off, .slice q1.a X.bad.length q1.c] 25)) 72 #[.int .u64 xs, .int .i64 xp]
  simp only [World.size_alloc] at b
  have bk := blk2 b
  have hB_12 := hB_7.alloc hB_7.size (.cells #[.int .u64 xs, .int .i64 xp] 72)
  have x_13 := x_8.alloc (.cells #[.int .u64 xs, .int .i64 xp] 72)
  have xk_13 := blk5 x_13
  have j_14 := j_9.alloc (.cells #[.int .u64 xs, .int .i64 xp] 72)
  have jk_14 := blk2 j_14
  have z_15 := z_10.alloc (.cells #[.int .u64 xs, .int .i64 xp] 72)
  have zk_15 := blk2 z_15
  have i1_16 := i1_11.below ((Below.refl _ _).alloc (Nat.le_refl _) (.cells #[.int .u64 xs, .int .i64 xp] 72))
  have a_17 := a.alloc (.cells #[.int .u64 xs, .int .i64 xp] 72)
  have ak_17 := blk5 a_17
  go_wp2_with fail
  go_at_call 39
  refine ((h2 _ hB_12)).mono ?_
  rintro e w5 ⟨⟨p2, q2, rfl, i2, o2⟩, hb5⟩
  replace hB := bt hB_12 hb5
  replace x := x_13.below hb5 x_13.lt
  replace xk := blk5 x
  replace j := j_14.below hb5 j_14.lt
  replace jk := blk2 j
  replace z := z_15.below hb5 z_15.lt
  replace zk := blk2 z
  replace i1 := i1_16.below hb5
  replace a := a_17.below hb5 a_17.lt
  replace ak := blk5 a
  replace b := b.below hb5 b.lt
  replace bk := blk2 b
  clear hB_7 xk_8 x_8 jk_9 j_9 zk_10 z_10 i1_11 hB_12 xk_13 x_13 jk_14 j_14 zk_15 z_15 i1_16 ak_17 a_17
  have a2 := Blk.new w5 25 #[.string (bs X.data), .slice p2.a X.cache.length p2.c, .int .i64 X.fuse, .bool X.off, .slice q2.a X.bad.length q2.c]
  have a2k := blk5 a2
  have hB_18 := hB.alloc hB.size (.cells #[.string (bs X.data), .slice p2.a X.cache.length p2.c, .int .i64 X.fuse, .bool X.off, .slice q2.a X.bad.length q2.c] 25)
  have x_19 := x.alloc (.cells #[.string (bs X.data), .slice p2.a X.cache.length p2.c, .int .i64 X.fuse, .bool X.off, .slice q2.a X.bad.length q2.c] 25)
  have xk_19 := blk5 x_19
  have j_20 := j.alloc (.cells #[.string (bs X.data), .slice p2.a X.cache.length p2.c, .int .i64 X.fuse, .bool X.off, .slice q2.a X.bad.length q2.c] 25)
  have jk_20 := blk2 j_20
  have z_21 := z.alloc (.cells #[.string (bs X.data), .slice p2.a X.cache.length p2.c, .int .i64 X.fuse, .bool X.off, .slice q2.a X.bad.length q2.c] 25)
  have zk_21 := blk2 z_21
  have i1_22 := i1.below ((Below.refl _ _).alloc (Nat.le_refl _) (.cells #[.string (bs X.data), .slice p2.a X.cache.length p2.c, .int .i64 X.fuse, .bool X.off, .slice q2.a X.bad.length q2.c] 25))
  have a_23 := a.alloc (.cells #[.string (bs X.data), .slice p2.a X.cache.length p2.c, .int .i64 X.fuse, .bool X.off, .slice q2.a X.bad.length q2.c] 25)
  have ak_23 := blk5 a_23
  have b_24 := b.alloc (.cells #[.string (bs X.data), .slice p2.a X.cache.length p2.c, .int .i64 X.fuse, .bool X.off, .slice q2.a X.bad.length q2.c] 25)
  have bk_24 := blk2 b_24
  have i2_25 := i2.below ((Below.refl _ _).alloc (Nat.le_refl _) (.cells #[.string (bs X.data), .slice p2.a X.cache.length p2.c, .int .i64 X.fuse, .bool X.off, .slice q2.a X.bad.length q2.c] 25))
  have b2 := Blk.new (w5.alloc (.cells #[.string (bs X.data), .slice p2.a X.cache.length p2.c, .int .i64 X.fuse, .bool X.off, .slice q2.a X.bad.length q2.c] 25)) 72 #[.int .u64 xs, .int .i64 xp]
  simp only [World.size_alloc] at b2
  have b2k := blk2 b2
  have hB_26 := hB_18.alloc hB_18.size (.cells #[.int .u64 xs, .int .i64 xp] 72)
  have x_27 := x_19.alloc (.cells #[.int .u64 xs, .int .i64 xp] 72)
  have xk_27 := blk5 x_27
  have j_28 := j_20.alloc (.cells #[.int .u64 xs, .int .i64 xp] 72)
  have jk_28 := blk2 j_28
  have z_29 := z_21.alloc (.cells #[.int .u64 xs, .int .i64 xp] 72)
  have zk_29 := blk2 z_29
  have i1_30 := i1_22.below ((Below.refl _ _).alloc (Nat.le_refl _) (.cells #[.int .u64 xs, .int .i64 xp] 72))
  have a_31 := a_23.alloc (.cells #[.int .u64 xs, .int .i64 xp] 72)
  have ak_31 := blk5 a_31
  have b_32 := b_24.alloc (.cells #[.int .u64 xs, .int .i64 xp] 72)
  have bk_32 := blk2 b_32
  have i2_33 := i2_25.below ((Below.refl _ _).alloc (Nat.le_refl _) (.cells #[.int .u64 xs, .int .i64 xp] 72))
  have a2_34 := a2.alloc (.cells #[.int .u64 xs, .int .i64 xp] 72)
  have a2k_34 := blk5 a2_34
  go_wp2_with fail
  go_at_call 40
  refine ((h3 _ hB_26)).mono ?_
  rintro e w6 ⟨⟨l, v, hl, rfl, hv, hvo⟩, hb6⟩
  replace hB := bt hB_26 hb6
  replace x := x_27.below hb6 x_27.lt
  replace xk := blk5 x
  replace j := j_28.below hb6 j_28.lt
  replace jk := blk2 j
  replace z := z_29.below hb6 z_29.lt
  replace zk := blk2 z
  replace i1 := i1_30.below hb6
  replace a := a_31.below hb6 a_31.lt
  replace ak := blk5 a
  replace b := b_32.below hb6 b_32.lt
  replace bk := blk2 b
  replace i2 := i2_33.below hb6
  replace a2 := a2_34.below hb6 a2_34.lt
  replace a2k := blk5 a2
  replace b2 := b2.below hb6 b2.lt
  replace b2k := blk2 b2
  clear hB_18 xk_19 x_19 jk_20 j_20 zk_21 z_21 i1_22 ak_23 a_23 bk_24 b_24 i2_25 hB_26 xk_27 x_27 jk_28 j_28 zk_29 z_29 i1_30 ak_31 a_31 bk_32 b_32 i2_33 a2k_34 a2_34
  have fv : FdV _ l v w6 := ⟨hv, hvo⟩
  go_wp2_with fail
  go_at_call 41
  refine ((h4 _ hB)).mono ?_
  rintro e w7 ⟨⟨m, u, hm, rfl, hu, huo⟩, hb7⟩
  replace hB := bt hB hb7
  replace x := x.below hb7 x.lt
  replace xk := blk5 x
  replace j := j.below hb7 j.lt
  replace jk := blk2 j
  replace z := z.below hb7 z.lt
  replace zk := blk2 z
  replace i1 := i1.below hb7
  replace a := a.below hb7 a.lt
  replace ak := blk5 a
  replace b := b.below hb7 b.lt
  replace bk := blk2 b
  replace i2 := i2.below hb7
  replace a2 := a2.below hb7 a2.lt
  replace a2k := blk5 a2
  replace b2 := b2.below hb7 b2.lt
  replace b2k := blk2 b2
  replace fv := fv.below hb7
  have fu : FdV _ m u w7 := ⟨hu, huo⟩
  have hlm : l.map Fd.it = m.map Fd.it := hl.trans hm.symm
  have hl1 : l.length ≤ 1000 := by have := Hlen.out; have h := congrArg List.length hl; rw [List.length_map] at h; rw [h]; exact Nat.le_trans this (by decide)
  have hl24 : ∀ x ∈ l, x.tx.plan.targets.length ≤ 1000000 ∧ x.tx.plan.data.length ≤ 1000000 := fun x hx => by
    have h := (Hfit.out x.it (by rw [← hl]; exact List.mem_map.2 ⟨x, hx, rfl⟩)).1.1
    have h1 : x.tx.plan.targets.length = x.tx.plan.data.length := h.1
    have h2 : x.tx.plan.targets.length ≤ 24 := h.2.1
    omega
  have hfs := fun (W : World) (B B' : Nat) (h : FdV B l v W) (h' : FdV B' m u W) => founds07 l m v u _ _ W h.1 h'.1 h.2 h'.2 hlm hl1 hl24
  clear hv hvo hu huo hlm hl1 hl24 hl hm
  go_wp2_with fail
  go_at_call 42
  refine ((h5 _ hB)).mono ?_
  rintro e w8 ⟨⟨p3, q3, rfl, i3, o3⟩, hb8⟩
  replace hB := bt hB hb8
  replace x := x.below hb8 x.lt
  replace xk := blk5 x
  replace j := j.below hb8 j.lt
  replace jk := blk2 j
  replace z := z.below hb8 z.lt
  replace zk := blk2 z
  replace i1 := i1.below hb8
  replace a := a.below hb8 a.lt
  replace ak := blk5 a
  replace b := b.below hb8 b.lt
  replace bk := blk2 b
  replace i2 := i2.below hb8
  replace a2 := a2.below hb8 a2.lt
  replace a2k := blk5 a2
  replace b2 := b2.below hb8 b2.lt
  replace b2k := blk2 b2
  replace fv := fv.below hb8
  replace fu := fu.below hb8
  have c := Blk.new w8 25 #[.string (bs Y.data), .slice p3.a Y.cache.length p3.c, .int .i64 Y.fuse, .bool Y.off, .slice q3.a Y.bad.length q3.c]
  have ck := blk5 c
  have hB_35 := hB.alloc hB.size (.cells #[.string (bs Y.data), .slice p3.a Y.cache.length p3.c, .int .i64 Y.fuse, .bool Y.off, .slice q3.a Y.bad.length q3.c] 25)
  have x_36 := x.alloc (.cells #[.string (bs Y.data), .slice p3.a Y.cache.length p3.c, .int .i64 Y.fuse, .bool Y.off, .slice q3.a Y.bad.length q3.c] 25)
  have xk_36 := blk5 x_36
  have j_37 := j.alloc (.cells #[.string (bs Y.data), .slice p3.a Y.cache.length p3.c, .int .i64 Y.fuse, .bool Y.off, .slice q3.a Y.bad.length q3.c] 25)
  have jk_37 := blk2 j_37
  have z_38 := z.alloc (.cells #[.string (bs Y.data), .slice p3.a Y.cache.length p3.c, .int .i64 Y.fuse, .bool Y.off, .slice q3.a Y.bad.length q3.c] 25)
  have zk_38 := blk2 z_38
  have i1_39 := i1.below ((Below.refl _ _).alloc (Nat.le_refl _) (.cells #[.string (bs Y.data), .slice p3.a Y.cache.length p3.c, .int .i64 Y.fuse, .bool Y.off, .slice q3.a Y.bad.length q3.c] 25))
  have a_40 := a.alloc (.cells #[.string (bs Y.data), .slice p3.a Y.cache.length p3.c, .int .i64 Y.fuse, .bool Y.off, .slice q3.a Y.bad.length q3.c] 25)
  have ak_40 := blk5 a_40
  have b_41 := b.alloc (.cells #[.string (bs Y.data), .slice p3.a Y.cache.length p3.c, .int .i64 Y.fuse, .bool Y.off, .slice q3.a Y.bad.length q3.c] 25)
  have bk_41 := blk2 b_41
  have i2_42 := i2.below ((Below.refl _ _).alloc (Nat.le_refl _) (.cells #[.string (bs Y.data), .slice p3.a Y.cache.length p3.c, .int .i64 Y.fuse, .bool Y.off, .slice q3.a Y.bad.length q3.c] 25))
  have a2_43 := a2.alloc (.cells #[.string (bs Y.data), .slice p3.a Y.cache.length p3.c, .int .i64 Y.fuse, .bool Y.off, .slice q3.a Y.bad.length q3.c] 25)
  have a2k_43 := blk5 a2_43
  have b2_44 := b2.alloc (.cells #[.string (bs Y.data), .slice p3.a Y.cache.length p3.c, .int .i64 Y.fuse, .bool Y.off, .slice q3.a Y.bad.length q3.c] 25)
  have b2k_44 := blk2 b2_44
  have fv_45 := fv.below ((Below.refl _ _).alloc (Nat.le_refl _) (.cells #[.string (bs Y.data), .slice p3.a Y.cache.length p3.c, .int .i64 Y.fuse, .bool Y.off, .slice q3.a Y.bad.length q3.c] 25))
  have fu_46 := fu.below ((Below.refl _ _).alloc (Nat.le_refl _) (.cells #[.string (bs Y.data), .slice p3.a Y.cache.length p3.c, .int .i64 Y.fuse, .bool Y.off, .slice q3.a Y.bad.length q3.c] 25))
  have i3_47 := i3.below ((Below.refl _ _).alloc (Nat.le_refl _) (.cells #[.string (bs Y.data), .slice p3.a Y.cache.length p3.c, .int .i64 Y.fuse, .bool Y.off, .slice q3.a Y.bad.length q3.c] 25))
  have d := Blk.new (w8.alloc (.cells #[.string (bs Y.data), .slice p3.a Y.cache.length p3.c, .int .i64 Y.fuse, .bool Y.off, .slice q3.a Y.bad.length q3.c] 25)) 72 #[.int .u64 ys, .int .i64 yp]
  simp only [World.size_alloc] at d
  have dk := blk2 d
  have hB_48 := hB_35.alloc hB_35.size (.cells #[.int .u64 ys, .int .i64 yp] 72)
  have x_49 := x_36.alloc (.cells #[.int .u64 ys, .int .i64 yp] 72)
  have xk_49 := blk5 x_49
  have j_50 := j_37.alloc (.cells #[.int .u64 ys, .int .i64 yp] 72)
  have jk_50 := blk2 j_50
  have z_51 := z_38.alloc (.cells #[.int .u64 ys, .int .i64 yp] 72)
  have zk_51 := blk2 z_51
  have i1_52 := i1_39.below ((Below.refl _ _).alloc (Nat.le_refl _) (.cells #[.int .u64 ys, .int .i64 yp] 72))
  have a_53 := a_40.alloc (.cells #[.int .u64 ys, .int .i64 yp] 72)
  have ak_53 := blk5 a_53
  have b_54 := b_41.alloc (.cells #[.int .u64 ys, .int .i64 yp] 72)
  have bk_54 := blk2 b_54
  have i2_55 := i2_42.below ((Below.refl _ _).alloc (Nat.le_refl _) (.cells #[.int .u64 ys, .int .i64 yp] 72))
  have a2_56 := a2_43.alloc (.cells #[.int .u64 ys, .int .i64 yp] 72)
  have a2k_56 := blk5 a2_56
  have b2_57 := b2_44.alloc (.cells #[.int .u64 ys, .int .i64 yp] 72)
  have b2k_57 := blk2 b2_57
  have fv_58 := fv_45.below ((Below.refl _ _).alloc (Nat.le_refl _) (.cells #[.int .u64 ys, .int .i64 yp] 72))
  have fu_59 := fu_46.below ((Below.refl _ _).alloc (Nat.le_refl _) (.cells #[.int .u64 ys, .int .i64 yp] 72))
  have i3_60 := i3_47.below ((Below.refl _ _).alloc (Nat.le_refl _) (.cells #[.int .u64 ys, .int .i64 yp] 72))
  have c_61 := c.alloc (.cells #[.int .u64 ys, .int .i64 yp] 72)
  have ck_61 := blk5 c_61
  go_wp2_with fail
  go_at_call 43
  refine ((h6 _ hB_48)).mono ?_
  rintro e w9 ⟨⟨p4, q4, rfl, i4, o4⟩, hb9⟩
  replace hB := bt hB_48 hb9
  replace x := x_49.below hb9 x_49.lt
  replace xk := blk5 x
  replace j := j_50.below hb9 j_50.lt
  replace jk := blk2 j
  replace z := z_51.below hb9 z_51.lt
  replace zk := blk2 z
  replace i1 := i1_52.below hb9
  replace a := a_53.below hb9 a_53.lt
  replace ak := blk5 a
  replace b := b_54.below hb9 b_54.lt
  replace bk := blk2 b
  replace i2 := i2_55.below hb9
  replace a2 := a2_56.below hb9 a2_56.lt
  replace a2k := blk5 a2
  replace b2 := b2_57.below hb9 b2_57.lt
  replace b2k := blk2 b2
  replace fv := fv_58.below hb9
  replace fu := fu_59.below hb9
  replace i3 := i3_60.below hb9
  replace c := c_61.below hb9 c_61.lt
  replace ck := blk5 c
  replace d := d.below hb9 d.lt
  replace dk := blk2 d
  clear hB_35 xk_36 x_36 jk_37 j_37 zk_38 z_38 i1_39 ak_40 a_40 bk_41 b_41 i2_42 a2k_43 a2_43 b2k_44 b2_44 fv_45 fu_46 i3_47 hB_48 xk_49 x_49 jk_50 j_50 zk_51 z_51 i1_52 ak_53 a_53 bk_54 b_54 i2_55 a2k_56 a2_56 b2k_57 b2_57 fv_58 fu_59 i3_60 ck_61 c_61
  have c2 := Blk.new w9 25 #[.string (bs Y.data), .slice p4.a Y.cache.length p4.c, .int .i64 Y.fuse, .bool Y.off, .slice q4.a Y.bad.length q4.c]
  have c2k := blk5 c2
  have hB_62 := hB.alloc hB.size (.cells #[.string (bs Y.data), .slice p4.a Y.cache.length p4.c, .int .i64 Y.fuse, .bool Y.off, .slice q4.a Y.bad.length q4.c] 25)
  have x_63 := x.alloc (.cells #[.string (bs Y.data), .slice p4.a Y.cache.length p4.c, .int .i64 Y.fuse, .bool Y.off, .slice q4.a Y.bad.length q4.c] 25)
  have xk_63 := blk5 x_63
  have j_64 := j.alloc (.cells #[.string (bs Y.data), .slice p4.a Y.cache.length p4.c, .int .i64 Y.fuse, .bool Y.off, .slice q4.a Y.bad.length q4.c] 25)
  have jk_64 := blk2 j_64
  have z_65 := z.alloc (.cells #[.string (bs Y.data), .slice p4.a Y.cache.length p4.c, .int .i64 Y.fuse, .bool Y.off, .slice q4.a Y.bad.length q4.c] 25)
  have zk_65 := blk2 z_65
  have i1_66 := i1.below ((Below.refl _ _).alloc (Nat.le_refl _) (.cells #[.string (bs Y.data), .slice p4.a Y.cache.length p4.c, .int .i64 Y.fuse, .bool Y.off, .slice q4.a Y.bad.length q4.c] 25))
  have a_67 := a.alloc (.cells #[.string (bs Y.data), .slice p4.a Y.cache.length p4.c, .int .i64 Y.fuse, .bool Y.off, .slice q4.a Y.bad.length q4.c] 25)
  have ak_67 := blk5 a_67
  have b_68 := b.alloc (.cells #[.string (bs Y.data), .slice p4.a Y.cache.length p4.c, .int .i64 Y.fuse, .bool Y.off, .slice q4.a Y.bad.length q4.c] 25)
  have bk_68 := blk2 b_68
  have i2_69 := i2.below ((Below.refl _ _).alloc (Nat.le_refl _) (.cells #[.string (bs Y.data), .slice p4.a Y.cache.length p4.c, .int .i64 Y.fuse, .bool Y.off, .slice q4.a Y.bad.length q4.c] 25))
  have a2_70 := a2.alloc (.cells #[.string (bs Y.data), .slice p4.a Y.cache.length p4.c, .int .i64 Y.fuse, .bool Y.off, .slice q4.a Y.bad.length q4.c] 25)
  have a2k_70 := blk5 a2_70
  have b2_71 := b2.alloc (.cells #[.string (bs Y.data), .slice p4.a Y.cache.length p4.c, .int .i64 Y.fuse, .bool Y.off, .slice q4.a Y.bad.length q4.c] 25)
  have b2k_71 := blk2 b2_71
  have fv_72 := fv.below ((Below.refl _ _).alloc (Nat.le_refl _) (.cells #[.string (bs Y.data), .slice p4.a Y.cache.length p4.c, .int .i64 Y.fuse, .bool Y.off, .slice q4.a Y.bad.length q4.c] 25))
  have fu_73 := fu.below ((Below.refl _ _).alloc (Nat.le_refl _) (.cells #[.string (bs Y.data), .slice p4.a Y.cache.length p4.c, .int .i64 Y.fuse, .bool Y.off, .slice q4.a Y.bad.length q4.c] 25))
  have i3_74 := i3.below ((Below.refl _ _).alloc (Nat.le_refl _) (.cells #[.string (bs Y.data), .slice p4.a Y.cache.length p4.c, .int .i64 Y.fuse, .bool Y.off, .slice q4.a Y.bad.length q4.c] 25))
  have c_75 := c.alloc (.cells #[.string (bs Y.data), .slice p4.a Y.cache.length p4.c, .int .i64 Y.fuse, .bool Y.off, .slice q4.a Y.bad.length q4.c] 25)
  have ck_75 := blk5 c_75
  have d_76 := d.alloc (.cells #[.string (bs Y.data), .slice p4.a Y.cache.length p4.c, .int .i64 Y.fuse, .bool Y.off, .slice q4.a Y.bad.length q4.c] 25)
  have dk_76 := blk2 d_76
  have i4_77 := i4.below ((Below.refl _ _).alloc (Nat.le_refl _) (.cells #[.string (bs Y.data), .slice p4.a Y.cache.length p4.c, .int .i64 Y.fuse, .bool Y.off, .slice q4.a Y.bad.length q4.c] 25))
  have d2 := Blk.new (w9.alloc (.cells #[.string (bs Y.data), .slice p4.a Y.cache.length p4.c, .int .i64 Y.fuse, .bool Y.off, .slice q4.a Y.bad.length q4.c] 25)) 72 #[.int .u64 ys, .int .i64 yp]
  simp only [World.size_alloc] at d2
  have d2k := blk2 d2
  have hB_78 := hB_62.alloc hB_62.size (.cells #[.int .u64 ys, .int .i64 yp] 72)
  have x_79 := x_63.alloc (.cells #[.int .u64 ys, .int .i64 yp] 72)
  have xk_79 := blk5 x_79
  have j_80 := j_64.alloc (.cells #[.int .u64 ys, .int .i64 yp] 72)
  have jk_80 := blk2 j_80
  have z_81 := z_65.alloc (.cells #[.int .u64 ys, .int .i64 yp] 72)
  have zk_81 := blk2 z_81
  have i1_82 := i1_66.below ((Below.refl _ _).alloc (Nat.le_refl _) (.cells #[.int .u64 ys, .int .i64 yp] 72))
  have a_83 := a_67.alloc (.cells #[.int .u64 ys, .int .i64 yp] 72)
  have ak_83 := blk5 a_83
  have b_84 := b_68.alloc (.cells #[.int .u64 ys, .int .i64 yp] 72)
  have bk_84 := blk2 b_84
  have i2_85 := i2_69.below ((Below.refl _ _).alloc (Nat.le_refl _) (.cells #[.int .u64 ys, .int .i64 yp] 72))
  have a2_86 := a2_70.alloc (.cells #[.int .u64 ys, .int .i64 yp] 72)
  have a2k_86 := blk5 a2_86
  have b2_87 := b2_71.alloc (.cells #[.int .u64 ys, .int .i64 yp] 72)
  have b2k_87 := blk2 b2_87
  have fv_88 := fv_72.below ((Below.refl _ _).alloc (Nat.le_refl _) (.cells #[.int .u64 ys, .int .i64 yp] 72))
  have fu_89 := fu_73.below ((Below.refl _ _).alloc (Nat.le_refl _) (.cells #[.int .u64 ys, .int .i64 yp] 72))
  have i3_90 := i3_74.below ((Below.refl _ _).alloc (Nat.le_refl _) (.cells #[.int .u64 ys, .int .i64 yp] 72))
  have c_91 := c_75.alloc (.cells #[.int .u64 ys, .int .i64 yp] 72)
  have ck_91 := blk5 c_91
  have d_92 := d_76.alloc (.cells #[.int .u64 ys, .int .i64 yp] 72)
  have dk_92 := blk2 d_92
  have i4_93 := i4_77.below ((Below.refl _ _).alloc (Nat.le_refl _) (.cells #[.int .u64 ys, .int .i64 yp] 72))
  have c2_94 := c2.alloc (.cells #[.int .u64 ys, .int .i64 yp] 72)
  have c2k_94 := blk5 c2_94
  go_wp2_with fail
  go_at_call 44
  refine ((hsX _ p1 q1 p2 q2 i1_82 i2_85)).mono ?_
  rintro e w10 ⟨rfl, hb10⟩
  replace hB := bt hB_78 hb10
  replace x := x_79.below hb10 x_79.lt
  replace xk := blk5 x
  replace j := j_80.below hb10 j_80.lt
  replace jk := blk2 j
  replace z := z_81.below hb10 z_81.lt
  replace zk := blk2 z
  replace i1 := i1_82.below hb10
  replace a := a_83.below hb10 a_83.lt
  replace ak := blk5 a
  replace b := b_84.below hb10 b_84.lt
  replace bk := blk2 b
  replace i2 := i2_85.below hb10
  replace a2 := a2_86.below hb10 a2_86.lt
  replace a2k := blk5 a2
  replace b2 := b2_87.below hb10 b2_87.lt
  replace b2k := blk2 b2
  replace fv := fv_88.below hb10
  replace fu := fu_89.below hb10
  replace i3 := i3_90.below hb10
  replace c := c_91.below hb10 c_91.lt
  replace ck := blk5 c
  replace d := d_92.below hb10 d_92.lt
  replace dk := blk2 d
  replace i4 := i4_93.below hb10
  replace c2 := c2_94.below hb10 c2_94.lt
  replace c2k := blk5 c2
  replace d2 := d2.below hb10 d2.lt
  replace d2k := blk2 d2
  clear hB_62 xk_63 x_63 jk_64 j_64 zk_65 z_65 i1_66 ak_67 a_67 bk_68 b_68 i2_69 a2k_70 a2_70 b2k_71 b2_71 fv_72 fu_73 i3_74 ck_75 c_75 dk_76 d_76 i4_77 hB_78 xk_79 x_79 jk_80 j_80 zk_81 z_81 i1_82 ak_83 a_83 bk_84 b_84 i2_85 a2k_86 a2_86 b2k_87 b2_87 fv_88 fu_89 i3_90 ck_91 c_91 dk_92 d_92 i4_93 c2k_94 c2_94
  go_wp2_with fail
  go_at_call 45
  refine ((hfs _ _ _ fv fu)).mono ?_
  rintro e w11 ⟨rfl, hb11⟩
  replace hB := bt hB hb11
  replace x := x.below hb11 x.lt
  replace xk := blk5 x
  replace j := j.below hb11 j.lt
  replace jk := blk2 j
  replace z := z.below hb11 z.lt
  replace zk := blk2 z
  replace i1 := i1.below hb11
  replace a := a.below hb11 a.lt
  replace ak := blk5 a
  replace b := b.below hb11 b.lt
  replace bk := blk2 b
  replace i2 := i2.below hb11
  replace a2 := a2.below hb11 a2.lt
  replace a2k := blk5 a2
  replace b2 := b2.below hb11 b2.lt
  replace b2k := blk2 b2
  replace fv := fv.below hb11
  replace fu := fu.below hb11
  replace i3 := i3.below hb11
  replace c := c.below hb11 c.lt
  replace ck := blk5 c
  replace d := d.below hb11 d.lt
  replace dk := blk2 d
  replace i4 := i4.below hb11
  replace c2 := c2.below hb11 c2.lt
  replace c2k := blk5 c2
  replace d2 := d2.below hb11 d2.lt
  replace d2k := blk2 d2
  go_wp2_with fail
  go_at_call 44
  refine ((hsY _ p3 q3 p4 q4 i3 i4)).mono ?_
  rintro e w12 ⟨rfl, hb12⟩
  replace hB := bt hB hb12
  replace x := x.below hb12 x.lt
  replace xk := blk5 x
  replace j := j.below hb12 j.lt
  replace jk := blk2 j
  replace z := z.below hb12 z.lt
  replace zk := blk2 z
  replace i1 := i1.below hb12
  replace a := a.below hb12 a.lt
  replace ak := blk5 a
  replace b := b.below hb12 b.lt
  replace bk := blk2 b
  replace i2 := i2.below hb12
  replace a2 := a2.below hb12 a2.lt
  replace a2k := blk5 a2
  replace b2 := b2.below hb12 b2.lt
  replace b2k := blk2 b2
  replace fv := fv.below hb12
  replace fu := fu.below hb12
  replace i3 := i3.below hb12
  replace c := c.below hb12 c.lt
  replace ck := blk5 c
  replace d := d.below hb12 d.lt
  replace dk := blk2 d
  replace i4 := i4.below hb12
  replace c2 := c2.below hb12 c2.lt
  replace c2k := blk5 c2
  replace d2 := d2.below hb12 d2.lt
  replace d2k := blk2 d2
  go_wp2_with fail
  go_at_call 32
  refine ((awake07 _)).mono ?_
  rintro e w13 ⟨rfl, hb13⟩
  replace hB := bt hB hb13
  replace x := x.below hb13 x.lt
  replace xk := blk5 x
  replace j := j.below hb13 j.lt
  replace jk := blk2 j
  replace z := z.below hb13 z.lt
  replace zk := blk2 z
  replace i1 := i1.below hb13
  replace a := a.below hb13 a.lt
  replace ak := blk5 a
  replace b := b.below hb13 b.lt
  replace bk := blk2 b
  replace i2 := i2.below hb13
  replace a2 := a2.below hb13 a2.lt
  replace a2k := blk5 a2
  replace b2 := b2.below hb13 b2.lt
  replace b2k := blk2 b2
  replace fv := fv.below hb13
  replace fu := fu.below hb13
  replace i3 := i3.below hb13
  replace c := c.below hb13 c.lt
  replace ck := blk5 c
  replace d := d.below hb13 d.lt
  replace dk := blk2 d
  replace i4 := i4.below hb13
  replace c2 := c2.below hb13 c2.lt
  replace c2k := blk5 c2
  replace d2 := d2.below hb13 d2.lt
  replace d2k := blk2 d2
  go_wp2_with fail
  go_ret
  exact ⟨rfl, hB⟩
theorem walk (w : World) (D : Dk) (p q : Pl) (hD : IsDk0 w D p q ∧ D.cache.length * Tryz.prog.bytesOf 163 ≤ reachBytes ∧ D.bad.length * Tryz.prog.bytesOf 3 ≤ reachBytes) (s : Nat) (k : Int) (wj : s < 18446744073709551616 ∧ okInt k) (L : Pn) (p' q' : Pl) (hL : IsPn w L p' q') :
    Calls Tryz.prog 10 #[dval D p q, .agg #[.int .u64 s, .int .i64 k], pval L p' q'] w fun e w' => e = .returned (.bool true) ∧ Below w.heap.size w w' := by
  obtain ⟨hD, c1, b1⟩ := hD
  rw [show Tryz.prog.bytesOf 3 = 8 by kernel_rfl] at b1
  unfold reachBytes at b1
  by_cases hg : good7 D = true ∧ jrFit ⟨s, k⟩ = true ∧ L.fit = true
  · exact walk_ok D s k L p q p' q' w hD (by omega) wj.1 wj.2 hL hg.1 hg.2.1 hg.2.2
  · exact walk_no D s k L p q p' q' w hD (by omega) wj.1 wj.2 hL hg
/-! ### The row -/
theorem own : ownKnob Tryz.prog.godebug = none := by kernel_rfl
set_option maxRecDepth 100000 in
theorem lifted (os : Os) (started : os.Started) (H : Type) (enc : TypeId × Value → H) :
    ReturnsInHanded {} Tryz.checked os 10 .any (Rows.jourDoesSpec.pre6 enc Tryz.prog Tryz.f10 Rows.jourDoesRow.domain false) (Rows.jourDoesSpec.post enc Tryz.prog Tryz.f10 false true false false) := by
  refine returnsInHanded_of_change_sized (C := Tryz.checked) own started (by kernel_rfl) Tryz.func10
    (ChangeSpec.witness6 (enc := enc) (C := Tryz.checked) false ⟨#[], #[.agg #[.string ByteArray.empty, .slice none 0 0, .int .i64 0, .bool false, .slice none 0 0], .agg #[.int .u64 0, .int .i64 0], .agg #[.slice none 0 0, .slice none 0 0]], []⟩ 8 (by kernel_rfl) (by kernel_rfl) (by kernel_rfl) (by kernel_rfl)) ?_
  intro W base args ds gs before hval0 hW hcnd hsz0 _
  have hval : ∀ (j : Nat) t v, Tryz.f10.params[j]? = some t → args[j]? = some v → Value.okWide Tryz.prog W .any base t v := hval0
  have hW' := hW
  obtain ⟨p, q, hA0, hV, rfl, hfz, hnd⟩ := hW
  have hA : DataW.TrodAll enc Tryz.prog W 0 (fun _ => true) true Tryz.f10.params.toList args.toList ds p := hA0
  have hAk := hA
  have hsz : (DataW.weightsEach Tryz.prog (Tryz.f10.params.toList ++ Rows.jourDoesSpec.plain.varTypes Tryz.prog) (ds ++ gs)).all (· ≤ reachBytes) = true := hsz0
  rw [Tryz.params10] at hA hval hsz
  obtain ⟨v0, vs0, d0, ds0, p0, q0, hargs, rfl, rfl, h0, r0⟩ := trodAll_cons hA
  obtain ⟨v1, vs1, d1, ds1, p1, q1, rfl, rfl, rfl, h1, r1⟩ := trodAll_cons r0
  obtain ⟨v2, vs2, d2, ds2, p2, q2, rfl, rfl, rfl, h2, r2⟩ := trodAll_cons r1
  obtain ⟨rfl, rfl, rfl⟩ := trodAll_nil r2
  obtain rfl : args = #[v0, v1, v2] := by cases args; simp_all
  obtain ⟨rfl, rfl⟩ := trodVars_none hV
  obtain ⟨D0, P0, Q0, rfl, w0⟩ := open_dk_sized Tryz.underlying25 (by kernel_rfl) (by kernel_rfl) Tryz.underlying9 Tryz.underlying22 Tryz.underlying3 Tryz.underlying4 Tryz.underlying23 Tryz.underlying163 (by kernel_rfl) (by kernel_rfl) Tryz.underlying3 Tryz.underlying9 Tryz.underlying3 (by kernel_rfl) (hval 0 25 v0 rfl rfl) h0 (weights_each hsz (j := 0) rfl rfl)
  obtain ⟨a1, b1, rfl, w1⟩ := open_jour Tryz.underlying72 (by kernel_rfl) (by kernel_rfl) Tryz.underlying70 Tryz.underlying3 (hval 1 72 v1 rfl rfl) h1
  obtain ⟨D2, P2, Q2, rfl, w2⟩ := open_plan Tryz.underlying28 (by kernel_rfl) (by kernel_rfl) Tryz.underlying23 Tryz.underlying26 Tryz.underlying3 (by kernel_rfl) Tryz.underlying9 (by kernel_rfl) (hval 2 28 v2 rfl rfl) h2
  clear hA0 hval0
  simp only [List.append_nil] at hW'
  refine (walk W D0 P0 Q0 w0 a1 b1 w1 D2 P2 Q2 w2).mono fun e W' ⟨he, hb⟩ => ?_
  subst he
  exact ⟨_, rfl, post_of_below (pa := _) (pv := []) hW' (fun _ _ _ => (trodAll_cons_mk (shut_bool Tryz.underlying4 _) trodAll_mk0)) (fun sp hsp => trodAll_stays (by kernel_rfl) hb (by kernel_rfl) hAk (fun x hx => hW'.lt x (by simpa using hx)) (fun x hx => hsp x (by simpa using hx))) (fun _ _ => rfl) (by simp) hb (ok_one (by kernel_rfl) rfl (okWide_bool_mk Tryz.underlying4 _))⟩
theorem over_ : Rows.jourDoesRow.holds Tryz.pinned (OpenSpec.ofChange Rows.jourDoesSpec) :=
  OpenClaim.holds_of_wide 10 Tryz.f10 rfl rfl rfl rfl rfl rfl rfl ⟨rfl, rfl, rfl, rfl, rfl⟩ rfl rfl rfl rfl rfl (by kernel_rfl) Tryz.func10 (by kernel_rfl)
    (of_decide_eq_true (by kernel_rfl)) (by unfold Func.isWrapper; first | (rw [if_pos (by decide +kernel)]; kernel_rfl) | (rw [if_neg (by decide +kernel)]; exact ⟨rfl, rfl⟩))
    (fun os started H enc _ => lifted os started H enc)
/-- The statement. -/
theorem proved : Rows.JourDoesSaid := over_
#print axioms proved
end Go.Proofs.YtplgmlcoeehnfaaGreat.jourDoes
