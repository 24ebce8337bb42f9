/- Package alloc and the document's ref09: clusters that are free. Package alloc and the document's ref09: how many clusters are in use. Package alloc: the free clusters, one by one. Package alloc: the first free cluster. Package alloc: a cluster is taken. -/
import Derived.Test.YtlapjkbefkmohaaGreatSdRefcs
import Derived.Test.YtlapjkbefkmohaaGreatSdPlain1
import Derived.Test.YtlapjkbefkmohaaGreatSdDev2
import Derived.WalkMore
import Derived.BigQuiet
set_option linter.unusedVariables false
namespace Go.Proofs.YtlapjkbefkmohaaGreat
open Go.RowKit Go.Shelf
attribute [local go_sem] bs_mk bs_append bs_extract bs_size bs_toList bs_get
theorem Pn.both_err1 {D : Dk} {L : Pn} {k : Nat} {a e : Int} (h1 : Pn.cntGet D L k = (a, e)) (he : e ≠ 0) : Pn.both D L k = (0, e) ∧ Pn.stopsAt D L k = true := by
 have h : Pn.both D L k = (0, e) := by rw [Pn.both, h1, if_pos he]
 exact ⟨h, by simp [Pn.stopsAt, h, he]⟩
theorem Pn.both_err2 {D : Dk} {L : Pn} {k : Nat} {a b e : Int} (h1 : Pn.cntGet D L k = (a, 0)) (h2 : Pn.cntGet D Pn.none k = (b, e)) (he : e ≠ 0) : Pn.both D L k = (0, e) ∧ Pn.stopsAt D L k = true := by
 have h : Pn.both D L k = (0, e) := by rw [Pn.both, h1, h2, if_neg (by simp), if_pos he]
 exact ⟨h, by simp [Pn.stopsAt, h, he]⟩
theorem Pn.both_sum {D : Dk} {L : Pn} {k : Nat} {a b : Int} (h1 : Pn.cntGet D L k = (a, 0)) (h2 : Pn.cntGet D Pn.none k = (b, 0)) : Pn.both D L k = (a + b, 0) ∧ (Pn.stopsAt D L k = decide (a + b = 0)) := by
 have h : Pn.both D L k = (a + b, 0) := by rw [Pn.both, h1, h2, if_neg (by simp), if_neg (by simp)]
 exact ⟨h, by simp [Pn.stopsAt, h]⟩
theorem Pn.find_stop {D : Dk} {L : Pn} {h : Nat} {k : Nat} {a e : Int} (hk : k < h) (hn : ∀ j, j < k → Pn.stopsAt D L j = false) (hb : Pn.both D L k = (a, e)) (hs : Pn.stopsAt D L k = true) : Pn.alFind D L h = if e ≠ 0 then (0, e) else ((k : Int), 0) := by
 rw [Pn.alFind_hit (h := (h : Int)) (k := k) (by omega) hs hn, hb]
theorem Pn.next_stop {D : Dk} {L : Pn} {k : Nat} (hn : ∀ j, j < k → Pn.stopsAt D L j = false) (h : Pn.stopsAt D L k = false) : ∀ j, j < k + 1 → Pn.stopsAt D L j = false := fun j hj => by
 rcases Nat.lt_or_eq_of_le (Nat.le_of_lt_succ hj) with h' | h'
 · exact hn j h'
 · rw [h']; exact h

set_option maxRecDepth 100000 in
set_option maxHeartbeats 1000000 in
theorem r9_find (D : Dk) (L : Pn) (p q p' q' : Pl) (w : World) (hD : IsDk w D p q) (hL : IsPn w L p' q') (hf : D.fit = true) (hfl : L.Fit) (g : Int) (h : Nat) (hh : h ≤ 256) :
 Calls Tryz.prog 67 #[dval D p q, pval L p' q', gval g h] w fun e w' => e = .returned (.tuple #[.int .i64 (Pn.alFind D L h).1, .int .i64 (Pn.alFind D L h).2]) ∧ Below w.heap.size w w' := by
 have hg1 := fun (W : World) (hb : Below w.heap.size w W) (k : Nat) => r8_get D L p q p' q' W (hD.below hb) (hL.below hb) hf hfl k
 have hg2 := fun (W : World) (hb : Below w.heap.size w W) (k : Nat) => r8_get D Pn.none p q ⟨Option.none, 0⟩ ⟨Option.none, 0⟩ W (hD.below hb) (isPn_zero _) hf Pn.none_fit k
 have Hg1 := hid hg1
 have Hg2 := hid hg2
 have Hle1 := hid (fun k => Pn.cntGet_le D L k)
 have Hle2 := hid (fun k => Pn.cntGet_le D Pn.none k)
 clear hg1 hg2 hD hL hf hfl
 obtain ⟨A1, a1⟩ := p
 obtain ⟨A2, a2⟩ := q
 obtain ⟨B1, b1⟩ := p'
 obtain ⟨B2, b2⟩ := q'
 have hB := Below.refl w.heap.size w
 have x := Blk.new w 25 #[.string (bs D.data), .slice A1 D.cache.length a1, .int .i64 D.fuse, .bool D.off, .slice A2 D.bad.length a2]
 have xk := blk5 x
 have hB_1 := hB.alloc hB.size (.cells #[.string (bs D.data), .slice A1 D.cache.length a1, .int .i64 D.fuse, .bool D.off, .slice A2 D.bad.length a2] 25)
 have z := Blk.new (w.alloc (.cells #[.string (bs D.data), .slice A1 D.cache.length a1, .int .i64 D.fuse, .bool D.off, .slice A2 D.bad.length a2] 25)) 67 #[.slice B1 L.targets.length b1, .slice B2 L.data.length b2]
 simp only [World.size_alloc] at z
 have zk := blk2 z
 have hB_2 := hB_1.alloc hB_1.size (.cells #[.slice B1 L.targets.length b1, .slice B2 L.data.length b2] 67)
 have x_3 := x.alloc (.cells #[.slice B1 L.targets.length b1, .slice B2 L.data.length b2] 67)
 have xk_3 := blk5 x_3
 have y := Blk.new ((w.alloc (.cells #[.string (bs D.data), .slice A1 D.cache.length a1, .int .i64 D.fuse, .bool D.off, .slice A2 D.bad.length a2] 25)).alloc (.cells #[.slice B1 L.targets.length b1, .slice B2 L.data.length b2] 67)) 27 #[.int .i64 g, .int .i64 h]
 simp only [World.size_alloc] at y
 have yk := blk2 y
 have hB_4 := hB_2.alloc hB_2.size (.cells #[.int .i64 g, .int .i64 h] 27)
 have x_5 := x_3.alloc (.cells #[.int .i64 g, .int .i64 h] 27)
 have xk_5 := blk5 x_5
 have z_6 := z.alloc (.cells #[.int .i64 g, .int .i64 h] 27)
 have zk_6 := blk2 z_6
 go_enter Tryz.func67, Tryz.ntmps67
 go_wp2_with fail
 go_loopw [8] (fun v W => ∃ m : Nat, m ≤ h ∧ v = .int .i64 m ∧ Hid (∀ j, j < m → Pn.stopsAt D L j = false) ∧ Blk W w.heap.size 25 #[.string (bs D.data), .slice A1 D.cache.length a1, .int .i64 D.fuse, .bool D.off, .slice A2 D.bad.length a2] ∧
  Blk W (w.heap.size + 1) 67 #[.slice B1 L.targets.length b1, .slice B2 L.data.length b2] ∧ Blk W (w.heap.size + 1 + 1) 27 #[.int .i64 g, .int .i64 h] ∧ Below w.heap.size w W) (fun v _ => h - (intOf v).toNat)
 case atStart => exact ⟨0, Nat.zero_le _, rfl, hid (fun j hj => by omega), x_5, z_6, y, hB_4⟩
 case round =>
  obtain ⟨m, hm, rfl, hno, x, z, y, hB⟩ := hrel
  by_cases hlt : m < h
  · have q1 := fun W hb => Hg1.out W hb m
    have q2 := fun W hb => Hg2.out W hb m
    have l1 := Hle1.out m
    have l2 := Hle2.out m
    obtain ⟨⟨a, e1⟩, hx1⟩ : ∃ x, Pn.cntGet D L m = x := ⟨_, rfl⟩
    obtain ⟨⟨b, e2⟩, hx2⟩ : ∃ x, Pn.cntGet D Pn.none m = x := ⟨_, rfl⟩
    rw [hx1] at q1 l1
    rw [hx2] at q2 l2
    simp only at q1 q2 l1 l2
    have X1 := hid hx1
    have X2 := hid hx2
    obtain ⟨l1a, l1b⟩ := l1
    obtain ⟨l2a, l2b⟩ := l2
    clear hx1 hx2
    have xk := blk5 x
    have zk := blk2 z
    have yk := blk2 y
    go_wp2_with fail
    go_at_call 33
    refine ((q1 _ hB)).mono ?_
    rintro e w1 ⟨rfl, hb1⟩
    replace hB := bt hB hb1
    replace x := x.below hb1 x.lt
    replace xk := blk5 x
    replace z := z.below hb1 z.lt
    replace zk := blk2 z
    replace y := y.below hb1 y.lt
    replace yk := blk2 y
    by_cases he1 : e1 = 0
    case neg =>
     have n1 : (e1 != 0) = true := by simpa using he1
     have Hr := hid (show Pn.alFind D L h = (0, e1) by rw [Pn.find_stop hlt hno.out (Pn.both_err1 X1.out he1).1 (Pn.both_err1 X1.out he1).2, if_pos he1])
     clear he1
     go_wp2_with fail
     go_ret2
     rw [Hr.out]
     exact ⟨rfl, hB⟩
    subst he1
    go_wp2_with fail
    go_at_call 33
    refine ((q2 _ hB)).mono ?_
    rintro e w2 ⟨rfl, hb2⟩
    replace hB := bt hB hb2
    replace x := x.below hb2 x.lt
    replace xk := blk5 x
    replace z := z.below hb2 z.lt
    replace zk := blk2 z
    replace y := y.below hb2 y.lt
    replace yk := blk2 y
    by_cases he2 : e2 = 0
    case neg =>
     have n1 : (e2 != 0) = true := by simpa using he2
     have Hr := hid (show Pn.alFind D L h = (0, e2) by rw [Pn.find_stop hlt hno.out (Pn.both_err2 X1.out X2.out he2).1 (Pn.both_err2 X1.out X2.out he2).2, if_pos he2])
     clear he2
     go_wp2_with fail
     go_ret2
     rw [Hr.out]
     exact ⟨rfl, hB⟩
    subst he2
    have Hb := hid (Pn.both_sum X1.out X2.out)
    by_cases h1 : a = 0
    · by_cases h2 : b = 0
      · subst h1
        subst h2
        have Hr := hid (show Pn.alFind D L h = ((m : Int), 0) by rw [Pn.find_stop hlt hno.out Hb.out.1 (by rw [Hb.out.2]; decide), if_neg (by simp)])
        go_wp2_with fail
        go_ret2
        rw [Hr.out]
        exact ⟨rfl, hB⟩
      · have n2 : (b == 0) = false := by simpa using h2
        have Hn := hid (Pn.next_stop hno.out (by rw [Hb.out.2]; simp; omega))
        subst h1
        clear h2
        go_wp2_with fail
        go_roundw
        case rel => exact ⟨m + 1, by omega, by go_num, Hn, x, z, y, hB⟩
        case measure => simp [intOf]; omega
    · have n2 : (a == 0) = false := by simpa using h1
      have Hn := hid (Pn.next_stop hno.out (by rw [Hb.out.2]; simp; omega))
      clear h1
      go_wp2_with fail
      go_roundw
      case rel => exact ⟨m + 1, by omega, by go_num, Hn, x, z, y, hB⟩
      case measure => simp [intOf]; omega
  · obtain rfl : m = h := by omega
    have Hr := hid (show Pn.alFind D L m = (0, 17) from Pn.alFind_miss (fun j hj => hno.out j (by omega)))
    have yk := blk2 y
    go_wp2_with fail
    go_ret2
    rw [Hr.out]
    exact ⟨rfl, hB⟩
set_option maxRecDepth 100000 in
theorem r9_take (D : Dk) (L : Pn) (p q p' q' : Pl) (w : World) (hD : IsDk w D p q) (hL : IsPn w L p' q') (hf : D.fit = true) (hfl : L.Fit) (g : Int) (h : Nat) (hh : h ≤ 256) :
 Calls Tryz.prog 35 #[dval D p q, pval L p' q', gval g h] w fun e w' => ∃ p1 q1, e = .returned (.tuple #[pval (Pn.alTake D L h).1 p1 q1, .int .i64 (Pn.alTake D L h).2.1, .int .i64 (Pn.alTake D L h).2.2]) ∧ IsPn w' (Pn.alTake D L h).1 p1 q1 ∧ (∀ x, x < w.heap.size → PnOff x L p' q' → PnOff x (Pn.alTake D L h).1 p1 q1) ∧ Below w.heap.size w w' := by
 have h1 := fun (W : World) (hb : Below w.heap.size w W) => r9_find D L p q p' q' W (hD.below hb) (hL.below hb) hf hfl g h hh
 have h2 := fun (W : World) (hb : Below w.heap.size w W) (k : Int) (hk : -9223372036854775808 ≤ k ∧ k ≤ 9223372036854775807) => r8_add D L p q p' q' W (hD.below hb) (hL.below hb) hf hfl k 1 (by omega)
 have Hap := hid (fun g (hg : w.heap.size ≤ g) => hL.apart hg)
 have Hz := hid (fun (W : World) (hb : Below w.heap.size w W) => hL.below hb)
 have hcs := Pn.alFind_cases D L h
 have Ht := Pn.alTake.eq_1 D L h
 generalize Pn.alFind D L h = S at h1 Ht hcs
 obtain ⟨k, e1⟩ := S
 simp only at h1 Ht hcs
 have hk : 0 ≤ k ∧ k ≤ 256 := by
  rcases hcs with ⟨j, hj, e, _⟩ | ⟨_, e⟩
  · injection e with e _; omega
  · omega
 have Ht := hid Ht
 clear hcs hD hL hf hfl
 have h3 := fun (W : World) (hb : Below w.heap.size w W) => h2 W hb k (by omega)
 clear h2
 generalize Pn.cntAdd D L k 1 = N at h3 Ht
 obtain ⟨X, e2⟩ := N
 obtain ⟨A1, a1⟩ := p
 obtain ⟨A2, a2⟩ := q
 obtain ⟨B1, b1⟩ := p'
 obtain ⟨B2, b2⟩ := q'
 have hB := Below.refl w.heap.size w
 have x := Blk.new w 25 #[.string (bs D.data), .slice A1 D.cache.length a1, .int .i64 D.fuse, .bool D.off, .slice A2 D.bad.length a2]
 have xk := blk5 x
 have hB_1 := hB.alloc hB.size (.cells #[.string (bs D.data), .slice A1 D.cache.length a1, .int .i64 D.fuse, .bool D.off, .slice A2 D.bad.length a2] 25)
 have z := Blk.new (w.alloc (.cells #[.string (bs D.data), .slice A1 D.cache.length a1, .int .i64 D.fuse, .bool D.off, .slice A2 D.bad.length a2] 25)) 67 #[.slice B1 L.targets.length b1, .slice B2 L.data.length b2]
 simp only [World.size_alloc] at z
 have zk := blk2 z
 have hB_2 := hB_1.alloc hB_1.size (.cells #[.slice B1 L.targets.length b1, .slice B2 L.data.length b2] 67)
 have x_3 := x.alloc (.cells #[.slice B1 L.targets.length b1, .slice B2 L.data.length b2] 67)
 have xk_3 := blk5 x_3
 have y := Blk.new ((w.alloc (.cells #[.string (bs D.data), .slice A1 D.cache.length a1, .int .i64 D.fuse, .bool D.off, .slice A2 D.bad.length a2] 25)).alloc (.cells #[.slice B1 L.targets.length b1, .slice B2 L.data.length b2] 67)) 27 #[.int .i64 g, .int .i64 h]
 simp only [World.size_alloc] at y
 have yk := blk2 y
 have hB_4 := hB_2.alloc hB_2.size (.cells #[.int .i64 g, .int .i64 h] 27)
 have x_5 := x_3.alloc (.cells #[.int .i64 g, .int .i64 h] 27)
 have xk_5 := blk5 x_5
 have z_6 := z.alloc (.cells #[.int .i64 g, .int .i64 h] 27)
 have zk_6 := blk2 z_6
 have r := Blk.new (((w.alloc (.cells #[.string (bs D.data), .slice A1 D.cache.length a1, .int .i64 D.fuse, .bool D.off, .slice A2 D.bad.length a2] 25)).alloc (.cells #[.slice B1 L.targets.length b1, .slice B2 L.data.length b2] 67)).alloc (.cells #[.int .i64 g, .int .i64 h] 27)) 67 #[.slice Option.none 0 0, .slice Option.none 0 0]
 simp only [World.size_alloc] at r
 have rk := blk2 r
 have rkf := r.frozen
 have hB_7 := hB_4.alloc hB_4.size (.cells #[.slice Option.none 0 0, .slice Option.none 0 0] 67)
 have x_8 := x_5.alloc (.cells #[.slice Option.none 0 0, .slice Option.none 0 0] 67)
 have xk_8 := blk5 x_8
 have z_9 := z_6.alloc (.cells #[.slice Option.none 0 0, .slice Option.none 0 0] 67)
 have zk_9 := blk2 z_9
 have y_10 := y.alloc (.cells #[.slice Option.none 0 0, .slice Option.none 0 0] 67)
 have yk_10 := blk2 y_10
 go_enter Tryz.func35, Tryz.ntmps35
 go_wp2_with fail
 go_at_call 67
 refine ((h1 _ hB_7)).mono ?_
 rintro e w1 ⟨rfl, hb1⟩
 replace hB := bt hB_7 hb1
 replace x := x_8.below hb1 x_8.lt
 replace xk := blk5 x
 replace z := z_9.below hb1 z_9.lt
 replace zk := blk2 z
 replace y := y_10.below hb1 y_10.lt
 replace yk := blk2 y
 replace r := r.below hb1 r.lt
 replace rk := blk2 r
 replace rkf := r.frozen
 clear hB_1 hB_2 xk_3 x_3 hB_4 xk_5 x_5 zk_6 z_6 hB_7 xk_8 x_8 zk_9 z_9 yk_10 y_10
 have rl : w.heap.size + 1 + 1 + 1 < w1.heap.size := r.lt
 by_cases he : e1 = 0
 case neg =>
  have n1 : (e1 != 0) = true := by simpa using he
  have Hr := hid (show Pn.alTake D L h = (L, 0, e1) by rw [Ht.out, if_pos he])
  clear he
  go_wp2_with fail
  rw [Hr.out]
  have yy := blk2 (blk_set2 r (.slice B1 L.targets.length b1) (.slice B2 L.data.length b2))
  have b9 := below_set2 hB (g := w.heap.size + 1 + 1 + 1) (by omega) (.slice B1 L.targets.length b1) (.slice B2 L.data.length b2)
  refine bodyPost_ret (v := .tuple #[pval L ⟨B1, b1⟩ ⟨B2, b2⟩, .int .i64 0, .int .i64 e1]) (by simp [results, Tryz.results35, go_sem, yy]) rfl ?_
  exact ⟨_, _, rfl, Hz.out _ b9, fun _ _ h => h, b9⟩
 subst he
 go_wp2_with fail
 go_at_call 52
 refine ((h3 _ hB)).mono ?_
 rintro e w2 ⟨⟨p3, q3, rfl, i3, o3⟩, hb2⟩
 replace hB := bt hB hb2
 replace x := x.below hb2 x.lt
 replace xk := blk5 x
 replace z := z.below hb2 z.lt
 replace zk := blk2 z
 replace y := y.below hb2 y.lt
 replace yk := blk2 y
 replace r := r.below hb2 r.lt
 replace rk := blk2 r
 replace rkf := r.frozen
 have oy := o3 (w.heap.size + 1 + 1 + 1) rl (Hap.out _ (by omega))
 have rl2 : w.heap.size + 1 + 1 + 1 < w2.heap.size := r.lt
 have r0 := r
 have hB0 := hB
 have j3 := i3
 have u := Blk.new w2 67 #[.slice p3.a X.targets.length p3.c, .slice q3.a X.data.length q3.c]
 have uk := blk2 u
 have hB_11 := hB.alloc hB.size (.cells #[.slice p3.a X.targets.length p3.c, .slice q3.a X.data.length q3.c] 67)
 have x_12 := x.alloc (.cells #[.slice p3.a X.targets.length p3.c, .slice q3.a X.data.length q3.c] 67)
 have xk_12 := blk5 x_12
 have z_13 := z.alloc (.cells #[.slice p3.a X.targets.length p3.c, .slice q3.a X.data.length q3.c] 67)
 have zk_13 := blk2 z_13
 have y_14 := y.alloc (.cells #[.slice p3.a X.targets.length p3.c, .slice q3.a X.data.length q3.c] 67)
 have yk_14 := blk2 y_14
 have r_15 := r.alloc (.cells #[.slice p3.a X.targets.length p3.c, .slice q3.a X.data.length q3.c] 67)
 have rk_15 := blk2 r_15
 have rkf_15 := r_15.frozen
 have i3_16 := i3.below ((Below.refl _ _).alloc (Nat.le_refl _) (.cells #[.slice p3.a X.targets.length p3.c, .slice q3.a X.data.length q3.c] 67))
 by_cases he : e2 = 0
 case neg =>
  have n1 : (e2 != 0) = true := by simpa using he
  have Hr := hid (show Pn.alTake D L h = (L, 0, e2) by rw [Ht.out, if_neg (by simp), if_pos he])
  clear he
  go_wp2_with fail
  rw [Hr.out]
  have yy := blk2 ((blk_set2 r0 (.slice B1 L.targets.length b1) (.slice B2 L.data.length b2)).alloc (.cells #[.slice p3.a X.targets.length p3.c, .slice q3.a X.data.length q3.c] 67))
  have b8 := below_set2 hB0 (g := w.heap.size + 1 + 1 + 1) (by omega) (.slice B1 L.targets.length b1) (.slice B2 L.data.length b2)
  have b9 := b8.alloc b8.size (.cells #[.slice p3.a X.targets.length p3.c, .slice q3.a X.data.length q3.c] 67)
  refine bodyPost_ret (v := .tuple #[pval L ⟨B1, b1⟩ ⟨B2, b2⟩, .int .i64 0, .int .i64 e2]) (by simp [results, Tryz.results35, go_sem, yy]) rfl ?_
  exact ⟨_, _, rfl, Hz.out _ b9, fun _ _ h => h, b9⟩
 subst he
 have Hr := hid (show Pn.alTake D L h = (X, k, 0) by rw [Ht.out, if_neg (by simp), if_neg (by simp)])
 go_wp2_with fail
 rw [Hr.out]
 have yy := blk2 ((blk_set2 r0 (.slice p3.a X.targets.length p3.c) (.slice q3.a X.data.length q3.c)).alloc (.cells #[.slice p3.a X.targets.length p3.c, .slice q3.a X.data.length q3.c] 67))
 have b8 := below_set2 hB0 (g := w.heap.size + 1 + 1 + 1) (by omega) (.slice p3.a X.targets.length p3.c) (.slice q3.a X.data.length q3.c)
 have b9 := b8.alloc b8.size (.cells #[.slice p3.a X.targets.length p3.c, .slice q3.a X.data.length q3.c] 67)
 refine bodyPost_ret (v := .tuple #[pval X p3 q3, .int .i64 k, .int .i64 0]) (by simp [results, Tryz.results35, go_sem, yy]) rfl ?_
 exact ⟨_, _, rfl, (j3.off2 oy _ _).below ((Below.refl _ _).alloc (Nat.le_refl _) _), fun g hg h => o3 g (by omega) h, b9⟩
end Go.Proofs.YtlapjkbefkmohaaGreat
set_option linter.unusedVariables false
namespace Go.Proofs.YtlapjkbefkmohaaGreat
open Go.RowKit Go.Shelf
attribute [local go_sem] bs_mk bs_append bs_extract bs_size bs_toList bs_get
end Go.Proofs.YtlapjkbefkmohaaGreat
set_option linter.unusedVariables false
namespace Go.Proofs.YtlapjkbefkmohaaGreat
open Go.RowKit Go.Shelf
attribute [local go_sem] bs_mk bs_append bs_extract bs_size bs_toList bs_get Oper.semAt_some
/-- The first that is handed out is what is looked for. -/
def FreeP (D : Dk) (L : Pn) (h : Nat) (ys : List (Int × Int)) : Prop := ∀ y r, ys = y :: r → y = Pn.alFind D L h
def FreeS (D : Dk) (L : Pn) (h : Nat) (ys : List (Int × Int)) : Prop := (ys = [] → Pn.alFind D L h = (0, 17)) ∧ FreeP D L h ys
theorem FreeP.next {D : Dk} {L : Pn} {h : Nat} {ys : List (Int × Int)} (hp : FreeP D L h ys) {y : Int × Int} (hy : ys = [] → y = Pn.alFind D L h) : FreeP D L h (ys ++ [y]) := by
 intro z r e
 cases ys with
 | nil => simp only [List.nil_append, List.cons.injEq] at e; rw [← e.1]; exact hy rfl
 | cons a l => simp only [List.cons_append, List.cons.injEq] at e; rw [← e.1]; exact hp a l rfl
theorem FreeP.done {D : Dk} {L : Pn} {h : Nat} {ys : List (Int × Int)} {y : Int × Int} (hp : FreeP D L h (ys ++ [y])) : FreeS D L h (ys ++ [y]) := ⟨fun e => absurd e (by simp), hp⟩
end Go.Proofs.YtlapjkbefkmohaaGreat
set_option linter.unusedVariables false
namespace Go.Proofs.YtlapjkbefkmohaaGreat
open Go.RowKit Go.Shelf
attribute [local go_sem] bs_mk bs_append bs_extract bs_size bs_toList bs_get Oper.semAt_some
end Go.Proofs.YtlapjkbefkmohaaGreat
set_option linter.unusedVariables false
namespace Go.Proofs.YtlapjkbefkmohaaGreat
open Go.RowKit Go.Shelf
attribute [local go_sem] bs_mk bs_append bs_extract bs_size bs_toList bs_get
end Go.Proofs.YtlapjkbefkmohaaGreat
