/- Package super: its reading, whole. -/
import Derived.Test.YtkiokdphjfkocaaDoorSuper4
set_option linter.unusedVariables false
namespace Go.Proofs.YtkiokdphjfkocaaDoor
open Go.RowKit Go.Shelf
attribute [local go_sem] bs_mk bs_append bs_extract bs_size bs_toList bs_get
set_option maxRecDepth 100000 in
set_option maxHeartbeats 1000000 in
theorem s_first (s : List UInt8) (hm : s.length ≤ maxLen) (B F G R : Nat) (tb tf tr tp te : TypeId) (w : World) (P1 E1 : Nat) (P2 E2 : Nat) (P3 E3 : Nat) (P4 E4 : Nat) (P5 E5 : Nat)
    (hB : Blk w B tb #[.string (bs s)]) (nB : B ≠ G) (hF : Blk w F tf #[.func (.func 33) #[] #[.pointer (some ⟨B, 0, none⟩)]]) (nF : F ≠ G) (hG : Blk w G 23 #[.int .i64 0, .int .i64 0])
    (hP1 : Blk w P1 tp #[.func (.func 36) #[] #[.pointer (some ⟨B, 0, none⟩)]]) (nP1 : P1 ≠ G) (hE1 : Blk w E1 te #[.int .i64 11]) (nE1 : E1 ≠ G)
    (hP2 : Blk w P2 tp #[.func (.func 37) #[] #[.pointer (some ⟨B, 0, none⟩)]]) (nP2 : P2 ≠ G) (hE2 : Blk w E2 te #[.int .i64 14]) (nE2 : E2 ≠ G)
    (hP3 : Blk w P3 tp #[.func (.func 39) #[] #[.pointer (some ⟨B, 0, none⟩)]]) (nP3 : P3 ≠ G) (hE3 : Blk w E3 te #[.int .i64 15]) (nE3 : E3 ≠ G)
    (hP4 : Blk w P4 tp #[.func (.func 40) #[] #[.pointer (some ⟨F, 0, none⟩), .pointer (some ⟨G, 0, none⟩)]]) (nP4 : P4 ≠ G) (hE4 : Blk w E4 te #[.int .i64 25]) (nE4 : E4 ≠ G)
    (hP5 : Blk w P5 tp #[.func (.func 41) #[] #[.pointer (some ⟨B, 0, none⟩)]]) (nP5 : P5 ≠ G) (hE5 : Blk w E5 te #[.int .i64 14]) (nE5 : E5 ≠ G)
    (hR : Blk w R tr #[.func (.func 32) #[] #[.pointer (some ⟨P1, 0, none⟩), .pointer (some ⟨E1, 0, none⟩)], .func (.func 32) #[] #[.pointer (some ⟨P2, 0, none⟩), .pointer (some ⟨E2, 0, none⟩)], .func (.func 32) #[] #[.pointer (some ⟨P3, 0, none⟩), .pointer (some ⟨E3, 0, none⟩)], .func (.func 32) #[] #[.pointer (some ⟨P4, 0, none⟩), .pointer (some ⟨E4, 0, none⟩)], .func (.func 32) #[] #[.pointer (some ⟨P5, 0, none⟩), .pointer (some ⟨E5, 0, none⟩)]]) (nR : R ≠ G) :
    Calls Tryd.prog 35 #[.slice (some ⟨R, 0, none⟩) 5 5] w fun x w' => x = .returned (.int .i64 (readE s)) ∧ Onl G w w' ∧ (readE s = 0 → Blk w' G 23 #[.int .i64 (gOf s), .int .i64 (hOf s)]) := by
  unfold maxLen at hm
  go_enter Tryd.func35, Tryd.ntmps35
  go_wp2_with fail
  go_loopw [8] (fun x W => ∃ i : Nat, i ≤ 5 ∧ x = .int .i64 i ∧ Onl G w W ∧ (∃ a b, Blk W G 23 #[a, b]) ∧ (4 ≤ i → Blk W G 23 #[.int .i64 (gOf s), .int .i64 (hOf s)]) ∧ (1 ≤ i → ck1 s = true) ∧ (2 ≤ i → ck2 s = true) ∧ (3 ≤ i → ck3 s = true) ∧ (4 ≤ i → ck4 s = true) ∧ (5 ≤ i → ck5 s = true)) (fun x _ => 5 - (intOf x).toNat)
  case atStart => exact ⟨0, by omega, rfl, Onl.refl _ _, ⟨_, _, hG⟩, by omega, by omega, by omega, by omega, by omega, by omega⟩
  case round =>
    obtain ⟨i, hi, rfl, o, ⟨ga, gb, hg⟩, hg4, q1, q2, q3, q4, q5⟩ := hrel
    have hB := o.1 _ _ _ nB hB
    have hF := o.1 _ _ _ nF hF
    have hR := o.1 _ _ _ nR hR
    have gl := hg.lt
    obtain rfl | rfl | rfl | rfl | rfl | rfl : i = 0 ∨ i = 1 ∨ i = 2 ∨ i = 3 ∨ i = 4 ∨ i = 5 := by omega
    · have c := s_k1 s (by omega) B P1 E1 tb tp te 11 wr hB (o.1 _ _ _ nP1 hP1) (o.1 _ _ _ nE1 hE1)
      have y0 : wr.cell? ⟨R, 0, none⟩ = some (.func (.func 32) #[] #[.pointer (some ⟨P1, 0, none⟩), .pointer (some ⟨E1, 0, none⟩)]) := hR.cell 0
      skip
      cases hk : ck1 s with
      | true =>
        have Hk := hid hk
        rw [hk] at c
        clear hk
        go_wp2_with fail
        go_at_call 32
        refine c.mono ?_
        rintro e w1 ⟨rfl, hb1⟩
        go_wp2_with fail
        go_roundw
        case rel => exact ⟨1, by omega, by go_num, o.trans (Onl.of gl hb1), ⟨_, _, hg.below hb1 gl⟩, by omega, fun _ => trivial, by omega, by omega, by omega, by omega⟩
        case measure => simp [intOf]
      | false =>
        have Hw := hid (show readE s = 11 from by simp [readE, hk])
        rw [hk] at c
        clear hk
        go_wp2_with fail
        go_at_call 32
        refine c.mono ?_
        rintro e w1 ⟨rfl, hb1⟩
        go_wp2_with fail
        go_ret
        rw [Hw.out]
        exact ⟨rfl, o.trans (Onl.of gl hb1), fun h => absurd h (by decide)⟩
    · have c := s_k2 s (by have : s.length = 64 := of_decide_eq_true (q1 (by omega)); omega) B P2 E2 tb tp te 14 wr hB (o.1 _ _ _ nP2 hP2) (o.1 _ _ _ nE2 hE2)
      have y0 : wr.cell? ⟨R, 1, none⟩ = some (.func (.func 32) #[] #[.pointer (some ⟨P2, 0, none⟩), .pointer (some ⟨E2, 0, none⟩)]) := hR.cell 1
      have q1 := q1 (by omega)
      cases hk : ck2 s with
      | true =>
        have Hk := hid hk
        rw [hk] at c
        clear hk
        go_wp2_with fail
        go_at_call 32
        refine c.mono ?_
        rintro e w1 ⟨rfl, hb1⟩
        go_wp2_with fail
        go_roundw
        case rel => exact ⟨2, by omega, by go_num, o.trans (Onl.of gl hb1), ⟨_, _, hg.below hb1 gl⟩, by omega, fun _ => q1, fun _ => trivial, by omega, by omega, by omega⟩
        case measure => simp [intOf]
      | false =>
        have Hw := hid (show readE s = 14 from by simp [readE, q1, hk])
        rw [hk] at c
        clear hk
        go_wp2_with fail
        go_at_call 32
        refine c.mono ?_
        rintro e w1 ⟨rfl, hb1⟩
        go_wp2_with fail
        go_ret
        rw [Hw.out]
        exact ⟨rfl, o.trans (Onl.of gl hb1), fun h => absurd h (by decide)⟩
    · have c := s_k3 s (of_decide_eq_true (q1 (by omega))) B P3 E3 tb tp te 15 wr hB (o.1 _ _ _ nP3 hP3) (o.1 _ _ _ nE3 hE3)
      have y0 : wr.cell? ⟨R, 2, none⟩ = some (.func (.func 32) #[] #[.pointer (some ⟨P3, 0, none⟩), .pointer (some ⟨E3, 0, none⟩)]) := hR.cell 2
      have q1 := q1 (by omega); have q2 := q2 (by omega)
      cases hk : ck3 s with
      | true =>
        have Hk := hid hk
        rw [hk] at c
        clear hk
        go_wp2_with fail
        go_at_call 32
        refine c.mono ?_
        rintro e w1 ⟨rfl, hb1⟩
        go_wp2_with fail
        go_roundw
        case rel => exact ⟨3, by omega, by go_num, o.trans (Onl.of gl hb1), ⟨_, _, hg.below hb1 gl⟩, by omega, fun _ => q1, fun _ => q2, fun _ => trivial, by omega, by omega⟩
        case measure => simp [intOf]
      | false =>
        have Hw := hid (show readE s = 15 from by simp [readE, q1, q2, hk])
        rw [hk] at c
        clear hk
        go_wp2_with fail
        go_at_call 32
        refine c.mono ?_
        rintro e w1 ⟨rfl, hb1⟩
        go_wp2_with fail
        go_ret
        rw [Hw.out]
        exact ⟨rfl, o.trans (Onl.of gl hb1), fun h => absurd h (by decide)⟩
    · have c := s_k4 s (of_decide_eq_true (q1 (by omega))) B P4 E4 tb tp te 25 F G tf ga gb wr hB hF hg nE4 (o.1 _ _ _ nP4 hP4) (o.1 _ _ _ nE4 hE4)
      have y0 : wr.cell? ⟨R, 3, none⟩ = some (.func (.func 32) #[] #[.pointer (some ⟨P4, 0, none⟩), .pointer (some ⟨E4, 0, none⟩)]) := hR.cell 3
      have q1 := q1 (by omega); have q2 := q2 (by omega); have q3 := q3 (by omega)
      cases hk : ck4 s with
      | true =>
        have Hk := hid hk
        rw [hk] at c
        clear hk
        go_wp2_with fail
        go_at_call 32
        refine c.mono ?_
        rintro e w1 ⟨rfl, o1, g1⟩
        go_wp2_with fail
        go_roundw
        case rel => exact ⟨4, by omega, by go_num, o.trans o1, ⟨_, _, g1⟩, fun _ => g1, fun _ => q1, fun _ => q2, fun _ => q3, fun _ => trivial, by omega⟩
        case measure => simp [intOf]
      | false =>
        have Hw := hid (show readE s = 25 from by simp [readE, q1, q2, q3, hk])
        rw [hk] at c
        clear hk
        go_wp2_with fail
        go_at_call 32
        refine c.mono ?_
        rintro e w1 ⟨rfl, o1, g1⟩
        go_wp2_with fail
        go_ret
        rw [Hw.out]
        exact ⟨rfl, o.trans o1, fun h => absurd h (by decide)⟩
    · have c := s_k5 s (of_decide_eq_true (q1 (by omega))) B P5 E5 tb tp te 14 wr hB (o.1 _ _ _ nP5 hP5) (o.1 _ _ _ nE5 hE5)
      have y0 : wr.cell? ⟨R, 4, none⟩ = some (.func (.func 32) #[] #[.pointer (some ⟨P5, 0, none⟩), .pointer (some ⟨E5, 0, none⟩)]) := hR.cell 4
      have q1 := q1 (by omega); have q2 := q2 (by omega); have q3 := q3 (by omega); have q4 := q4 (by omega)
      cases hk : ck5 s with
      | true =>
        have Hk := hid hk
        rw [hk] at c
        clear hk
        go_wp2_with fail
        go_at_call 32
        refine c.mono ?_
        rintro e w1 ⟨rfl, hb1⟩
        go_wp2_with fail
        go_roundw
        case rel => exact ⟨5, by omega, by go_num, o.trans (Onl.of gl hb1), ⟨_, _, hg.below hb1 gl⟩, fun _ => (hg4 (by omega)).below hb1 gl, fun _ => q1, fun _ => q2, fun _ => q3, fun _ => q4, fun _ => trivial⟩
        case measure => simp [intOf]
      | false =>
        have Hw := hid (show readE s = 14 from by simp [readE, q1, q2, q3, q4, hk])
        rw [hk] at c
        clear hk
        go_wp2_with fail
        go_at_call 32
        refine c.mono ?_
        rintro e w1 ⟨rfl, hb1⟩
        go_wp2_with fail
        go_ret
        rw [Hw.out]
        exact ⟨rfl, o.trans (Onl.of gl hb1), fun h => absurd h (by decide)⟩
    · have Hw := hid (readE_of (q1 (by omega)) (q2 (by omega)) (q3 (by omega)) (q4 (by omega)) (q5 (by omega)))
      have hg4 := hg4 (by omega)
      go_wp2_with fail
      go_ret
      rw [Hw.out]
      exact ⟨rfl, o, fun _ => hg4⟩
set_option maxRecDepth 100000 in
set_option maxHeartbeats 1000000 in
theorem s_read (s : List UInt8) (hm : s.length ≤ maxLen) (w : World) :
    Calls Tryd.prog 20 #[.string (bs s)] w fun x w' => x = .returned (.tuple #[gval (readG s) (readH s), .int .i64 (readE s)]) ∧ Below w.heap.size w w' := by
  have hso := s_so'
  have x0 := (((Blk.new w 9 #[.string (bs s)]).alloc (.cells #[.int .i64 0, .int .i64 0] 23)).alloc (.cells #[.int .i64 0, .int .i64 0] 23)).alloc (.cells #[.func (.func 33) #[] #[.pointer (some ⟨w.heap.size, 0, none⟩)]] 27)
  have z0 := ((Blk.new (w.alloc (.cells #[.string (bs s)] 9)) 23 #[.int .i64 0, .int .i64 0]).alloc (.cells #[.int .i64 0, .int .i64 0] 23)).alloc (.cells #[.func (.func 33) #[] #[.pointer (some ⟨w.heap.size, 0, none⟩)]] 27)
  have v0 := (Blk.new ((w.alloc (.cells #[.string (bs s)] 9)).alloc (.cells #[.int .i64 0, .int .i64 0] 23)) 23 #[.int .i64 0, .int .i64 0]).alloc (.cells #[.func (.func 33) #[] #[.pointer (some ⟨w.heap.size, 0, none⟩)]] 27)
  have u0 := Blk.new (((w.alloc (.cells #[.string (bs s)] 9)).alloc (.cells #[.int .i64 0, .int .i64 0] 23)).alloc (.cells #[.int .i64 0, .int .i64 0] 23)) 27 #[.func (.func 33) #[] #[.pointer (some ⟨w.heap.size, 0, none⟩)]]
  have b0 := ((((Below.refl w.heap.size w).alloc (Nat.le_refl _) (.cells #[.string (bs s)] 9)).alloc (by simp) (.cells #[.int .i64 0, .int .i64 0] 23)).alloc (by simp; omega) (.cells #[.int .i64 0, .int .i64 0] 23)).alloc (by simp; omega) (.cells #[.func (.func 33) #[] #[.pointer (some ⟨w.heap.size, 0, none⟩)]] 27)
  simp only [World.size_alloc] at z0 v0 u0
  go_enter Tryd.func20, Tryd.ntmps20
  go_wp2_with fail
  generalize (((w.alloc (.cells #[.string (bs s)] 9)).alloc (.cells #[.int .i64 0, .int .i64 0] 23)).alloc (.cells #[.int .i64 0, .int .i64 0] 23)).alloc (.cells #[.func (.func 33) #[] #[.pointer (some ⟨w.heap.size, 0, none⟩)]] 27) = wa at *
  have ua := u0.lt
  go_at_call 31
  refine (hso _ _ _ _).mono ?_
  rintro e w1 ⟨rfl, E1_1, P1_1, hb1⟩
  have x1 := x0.below hb1 x0.lt
  have z1 := z0.below hb1 z0.lt
  have v1 := v0.below hb1 v0.lt
  have u1 := u0.below hb1 u0.lt
  have b1 := bt b0 hb1
  have l1 := P1_1.lt
  have m1 := hb1.size
  clear x0 z0 v0 u0 b0 hb1
  go_wp2_with fail
  go_at_call 31
  refine (hso _ _ _ _).mono ?_
  rintro e w2 ⟨rfl, E2_2, P2_2, hb2⟩
  have x2 := x1.below hb2 x1.lt
  have z2 := z1.below hb2 z1.lt
  have v2 := v1.below hb2 v1.lt
  have u2 := u1.below hb2 u1.lt
  have E1_2 := E1_1.below hb2 E1_1.lt
  have P1_2 := P1_1.below hb2 P1_1.lt
  have b2 := bt b1 hb2
  have l2 := P2_2.lt
  have m2 := hb2.size
  clear x1 z1 v1 u1 E1_1 P1_1 b1 hb2
  go_wp2_with fail
  go_at_call 31
  refine (hso _ _ _ _).mono ?_
  rintro e w3 ⟨rfl, E3_3, P3_3, hb3⟩
  have x3 := x2.below hb3 x2.lt
  have z3 := z2.below hb3 z2.lt
  have v3 := v2.below hb3 v2.lt
  have u3 := u2.below hb3 u2.lt
  have E1_3 := E1_2.below hb3 E1_2.lt
  have P1_3 := P1_2.below hb3 P1_2.lt
  have E2_3 := E2_2.below hb3 E2_2.lt
  have P2_3 := P2_2.below hb3 P2_2.lt
  have b3 := bt b2 hb3
  have l3 := P3_3.lt
  have m3 := hb3.size
  clear x2 z2 v2 u2 E1_2 P1_2 E2_2 P2_2 b2 hb3
  go_wp2_with fail
  go_at_call 31
  refine (hso _ _ _ _).mono ?_
  rintro e w4 ⟨rfl, E4_4, P4_4, hb4⟩
  have x4 := x3.below hb4 x3.lt
  have z4 := z3.below hb4 z3.lt
  have v4 := v3.below hb4 v3.lt
  have u4 := u3.below hb4 u3.lt
  have E1_4 := E1_3.below hb4 E1_3.lt
  have P1_4 := P1_3.below hb4 P1_3.lt
  have E2_4 := E2_3.below hb4 E2_3.lt
  have P2_4 := P2_3.below hb4 P2_3.lt
  have E3_4 := E3_3.below hb4 E3_3.lt
  have P3_4 := P3_3.below hb4 P3_3.lt
  have b4 := bt b3 hb4
  have l4 := P4_4.lt
  have m4 := hb4.size
  clear x3 z3 v3 u3 E1_3 P1_3 E2_3 P2_3 E3_3 P3_3 b3 hb4
  go_wp2_with fail
  go_at_call 31
  refine (hso _ _ _ _).mono ?_
  rintro e w5 ⟨rfl, E5_5, P5_5, hb5⟩
  have x5 := x4.below hb5 x4.lt
  have z5 := z4.below hb5 z4.lt
  have v5 := v4.below hb5 v4.lt
  have u5 := u4.below hb5 u4.lt
  have E1_5 := E1_4.below hb5 E1_4.lt
  have P1_5 := P1_4.below hb5 P1_4.lt
  have E2_5 := E2_4.below hb5 E2_4.lt
  have P2_5 := P2_4.below hb5 P2_4.lt
  have E3_5 := E3_4.below hb5 E3_4.lt
  have P3_5 := P3_4.below hb5 P3_4.lt
  have E4_5 := E4_4.below hb5 E4_4.lt
  have P4_5 := P4_4.below hb5 P4_4.lt
  have b5 := bt b4 hb5
  have l5 := P5_5.lt
  have m5 := hb5.size
  clear x4 z4 v4 u4 E1_4 P1_4 E2_4 P2_4 E3_4 P3_4 E4_4 P4_4 b4 hb5
  go_wp2_with fail
  go_at_call 35
  refine (s_first s hm w.heap.size (w.heap.size + 1 + 1 + 1) (w.heap.size + 1 + 1) w5.heap.size _ _ _ _ _ _ (wa.heap.size + 1) wa.heap.size (w1.heap.size + 1) w1.heap.size (w2.heap.size + 1) w2.heap.size (w3.heap.size + 1) w3.heap.size (w4.heap.size + 1) w4.heap.size (x5.alloc _) (by omega) (u5.alloc _) (by omega) (v5.alloc _)
    (P1_5.alloc _) (by omega) (E1_5.alloc _) (by omega) (P2_5.alloc _) (by omega) (E2_5.alloc _) (by omega) (P3_5.alloc _) (by omega) (E3_5.alloc _) (by omega) (P4_5.alloc _) (by omega) (E4_5.alloc _) (by omega) (P5_5.alloc _) (by omega) (E5_5.alloc _) (by omega) (Blk.new w5 _ _) (by omega)).mono ?_
  rintro e w8 ⟨rfl, o8, g8⟩
  have z8 := o8.1 _ _ _ (show w.heap.size + 1 ≠ w.heap.size + 1 + 1 by omega) (z5.alloc _)
  have b8 := (b5.alloc b5.size _).trans (o8.2.mono (show w.heap.size ≤ w.heap.size + 1 + 1 by omega))
  have y2 := z8.frozen
  have y3 := blk2 z8
  clear x5 z5 v5 u5 E1_5 P1_5 E2_5 P2_5 E3_5 P3_5 E4_5 P4_5 E5_5 P5_5 b5 o8
  by_cases h0 : readE s = 0
  case neg =>
    have Hw := hid (show readG s = 0 ∧ readH s = 0 by unfold readG readH; rw [if_neg h0, if_neg h0]; exact ⟨rfl, rfl⟩)
    have n1 : (readE s != 0) = true := by simpa using h0
    clear g8 h0
    go_wp2_with fail
    have zz := blk2 (blk_set2 z8 (.int .i64 0) (.int .i64 0))
    have bb := below_set2 b8 (g := w.heap.size + 1) (by omega) (.int .i64 0) (.int .i64 0)
    refine bodyPost_ret (v := .tuple #[gval 0 0, .int .i64 (readE s)]) (by simp [results, Tryd.results20, go_sem, zz]) rfl ?_
    rw [Hw.out.1, Hw.out.2]
    exact ⟨rfl, bb⟩
  have Hw := hid (show readG s = gOf s ∧ readH s = hOf s by unfold readG readH; rw [if_pos h0, if_pos h0]; exact ⟨rfl, rfl⟩)
  have y5 := blk2 (g8 h0)
  have H0 := hid h0
  rw [h0]
  clear g8 h0
  generalize gOf s = g at *
  generalize hOf s = h at *
  go_wp2_with fail
  have zz := blk2 (blk_set2 z8 (.int .i64 g) (.int .i64 h))
  have bb := below_set2 b8 (g := w.heap.size + 1) (by omega) (.int .i64 g) (.int .i64 h)
  refine bodyPost_ret (v := .tuple #[gval g h, .int .i64 0]) (by simp [results, Tryd.results20, go_sem, zz]) rfl ?_
  rw [Hw.out.1, Hw.out.2, H0.out]
  exact ⟨rfl, bb⟩
end Go.Proofs.YtkiokdphjfkocaaDoor
