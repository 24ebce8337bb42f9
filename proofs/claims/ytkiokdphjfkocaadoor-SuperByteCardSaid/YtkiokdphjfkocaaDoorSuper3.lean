/- Package super's document: its reading. -/
import Derived.Test.YtkiokdphjfkocaaDoorSuper2
set_option linter.unusedVariables false
namespace Go.Proofs.YtkiokdphjfkocaaDoor
open Go.RowKit Go.Shelf
attribute [local go_sem] bs_mk bs_append bs_extract bs_size bs_toList bs_get
theorem beq_dec (a b : List UInt8) : (a == b) = decide (a = b) := by rw [Bool.eq_iff_iff]; simp
theorem ck2_eq (s : List UInt8) : ck2 s = decide (s.take 4 = [67, 79, 70, 49]) := by
  rw [Bool.eq_iff_iff, decide_eq_true_iff]
  constructor
  · intro h; rw [prefix4 h]; rfl
  · intro h
    show List.isPrefixOf _ _ = true
    rw [List.isPrefixOf_iff_prefix]
    exact ⟨s.drop 4, by conv => rhs; rw [← List.take_append_drop 4 s, h]
                        rfl⟩
set_option maxRecDepth 100000 in
set_option maxHeartbeats 1000000 in
theorem r4_read (s : List UInt8) (hm : s.length ≤ maxLen) (w : World) : Calls Tryd.prog 21 #[.string (bs s)] w fun x w' => x = .returned (.tuple #[gval (readG s) (readH s), .int .i64 (readE s)]) ∧ Below w.heap.size w w' := by
  unfold maxLen at hm
  have hb := (Below.refl w.heap.size w).alloc (Nat.le_refl _) (.cells #[.int .i64 0, .int .i64 0] 23)
  have x0 := Blk.new w 23 #[.int .i64 0, .int .i64 0]
  have zz := blk2 x0
  have f0 := x0.frozen
  have z3 : ∀ k : Int, readE s = k → k ≠ 0 → Hid (readE s = k ∧ readG s = 0 ∧ readH s = 0) := fun k hk h0 => by
    refine hid ⟨hk, ?_, ?_⟩
    · unfold readG; rw [if_neg (by rw [hk]; exact h0)]
    · unfold readH; rw [if_neg (by rw [hk]; exact h0)]
  by_cases h1 : s.length = 64
  case neg =>
    have Hw := z3 11 (by simp [readE, ck1, h1]) (by decide)
    have h1' : ¬ (s.length : Int) = 64 := by omega
    clear z3
    go_enter Tryd.func21, Tryd.ntmps21
    go_wp2_with fail
    refine bodyPost_ret (v := .tuple #[gval 0 0, .int .i64 11]) (by simp [results, Tryd.results21, go_sem, zz]) rfl ?_
    rw [Hw.out.1, Hw.out.2.1, Hw.out.2.2]
    exact ⟨rfl, hb⟩
  have h64 : (s.length : Int) = 64 := by omega
  have k1 : ck1 s = true := decide_eq_true h1
  have e2 : (s.take 4 == [67, 79, 70, 49]) = ck2 s := by rw [ck2_eq, beq_dec]
  cases k2 : ck2 s with
  | false =>
    have Hw := z3 14 (by simp [readE, k1, k2]) (by decide)
    rw [k2] at e2
    clear z3 k2 k1
    go_enter Tryd.func21, Tryd.ntmps21
    go_wp2_with fail
    refine bodyPost_ret (v := .tuple #[gval 0 0, .int .i64 14]) (by simp [results, Tryd.results21, go_sem, zz]) rfl ?_
    rw [Hw.out.1, Hw.out.2.1, Hw.out.2.2]
    exact ⟨rfl, hb⟩
  | true =>
  rw [k2] at e2
  have l8 : (s.take 8).length ≤ 140737488355328 := by rw [List.length_take]; omega
  have hO := fun e : Ext (w.alloc (.cells #[.int .i64 0, .int .i64 0] 23)) => r2_of (s.take 8) l8 e.world
  have hB := fun e : Ext (w.alloc (.cells #[.int .i64 0, .int .i64 0] 23)) => r2_bytes (crcOf (s.take 8)) (crcMore_lt _ _) e.world
  have hO' := fun e => Calls.mono (hO e) (fun x y (h : x = .returned (.int .u32 (crcOf (s.take 8) : Nat)) ∧ e.world = y) => (⟨h.1, h.2 ▸ Below.refl _ _⟩ : _ ∧ Below e.world.heap.size e.world y))
  clear hO
  have e3 : (be 4 (crcOf (s.take 8)) == (s.take 12).drop 8) = ck3 s := by rw [beq_dec]; rfl
  cases k3 : ck3 s with
  | false =>
    have Hw := z3 15 (by simp [readE, k1, k2, k3]) (by decide)
    rw [k3] at e3
    clear z3 k3 k2 k1
    go_enter Tryd.func21, Tryd.ntmps21
    go_wp2_with fail
    refine wp_region_ext mixed (by kernel_rfl) ?_
    repeat (go_big_quiet_step ((first | (go_at_call 30; with_reducible exact ext_of (hO' _)) | (go_at_call 29; with_reducible exact ext_of (hB _)))))
    refine wpQuiet_nil ?_
    rintro w1 ⟨pq_, hpq_⟩
    have hb1 := pq_.below
    rw [← hpq_] at hb1
    clear hpq_ pq_
    have x1 := x0.below hb1 x0.lt
    have b1 := bt hb hb1
    have f1 := x1.frozen
    have xk1 := blk2 x1
    have zz1 := blk2 (blk_set2 x1 (.int .i64 0) (.int .i64 0))
    have bb := below_set2 b1 (g := w.heap.size) (Nat.le_refl _) (.int .i64 0) (.int .i64 0)
    go_wp2_with fail
    refine bodyPost_ret (v := .tuple #[gval 0 0, .int .i64 15]) (by simp [results, Tryd.results21, go_sem, zz1]) rfl ?_
    rw [Hw.out.1, Hw.out.2.1, Hw.out.2.2]
    exact ⟨rfl, bb⟩
  | true =>
  rw [k3] at e3
  have hT1 := fun W => rtake_ok (s.drop 4) (by rw [List.length_drop]; unfold maxLen; omega) 2 (by omega) (by omega) (by rw [List.length_drop]; omega) W
  have hT2 := fun W => rtake_ok (s.drop 6) (by rw [List.length_drop]; unfold maxLen; omega) 2 (by omega) (by omega) (by rw [List.length_drop]; omega) W
  have hgo : un ((s.drop 4).take (2 : Int).toNat) = gOf s := rfl
  have hho : un ((s.drop 6).take (2 : Int).toNat) = hOf s := rfl
  rw [hgo] at hT1
  rw [hho] at hT2
  generalize (s.drop 4).drop (2 : Int).toNat = r1 at hT1
  generalize (s.drop 6).drop (2 : Int).toNat = r2 at hT2
  have e64 : s.take 64 = s := List.take_of_length_le (by omega)
  rw [show s.drop 4 = (s.take 64).drop 4 by rw [e64]] at hT1
  rw [show s.drop 6 = (s.take 64).drop 6 by rw [e64]] at hT2
  clear e64
  have hgl := gOf_lt s
  have hhl := hOf_lt s
  have hF := fun W => r4_fit (gOf s) (hOf s) W
  have hW := fun W => r4_write (gOf s) (hOf s) W
  have h4 : geomOk (gOf s) (hOf s) = ck4 s := rfl
  rw [h4] at hF
  have H5 := hid (fun (h : ck4 s = true) => show (writeW (gOf s) (hOf s) == s) = ck5 s by
    have := sup_iff k1 k2 k3
    unfold writeW
    rw [if_pos (show geomOk (gOf s) (hOf s) = true from h), Int.toNat_natCast, Int.toNat_natCast, Bool.eq_iff_iff, beq_iff_eq]
    exact this)
  have R1 := hid (fun (h : ck4 s = false) => z3 25 (by simp [readE, k1, k2, k3, h]) (by decide))
  have R2 := hid (fun (h : ck4 s = true) (h' : ck5 s = false) => z3 14 (by simp [readE, k1, k2, k3, h, h']) (by decide))
  have R3 := hid (fun (h : ck4 s = true) (h' : ck5 s = true) => show readE s = 0 ∧ readG s = gOf s ∧ readH s = hOf s by
    have h0 := readE_of k1 k2 k3 h h'
    refine ⟨h0, ?_, ?_⟩
    · unfold readG; rw [if_pos h0]
    · unfold readH; rw [if_pos h0])
  have wg := i64w (x := (gOf s : Int)) (by omega)
  have wh := i64w (x := (hOf s : Int)) (by omega)
  clear z3 k1 k2 k3 h4 hgo hho
  generalize gOf s = g at *
  generalize hOf s = h at *
  generalize writeW g h = U at *
  generalize writeE g h = ue at *
  go_enter Tryd.func21, Tryd.ntmps21
  go_wp2_with fail
  refine wp_region_ext mixed (by kernel_rfl) ?_
  repeat (go_big_quiet_step ((first | (go_at_call 30; with_reducible exact ext_of (hO' _)) | (go_at_call 29; with_reducible exact ext_of (hB _)))))
  refine wpQuiet_nil ?_
  rintro w1 ⟨pq_, hpq_⟩
  have hb1 := pq_.below
  rw [← hpq_] at hb1
  clear hpq_ pq_
  have x1 := x0.below hb1 x0.lt
  have b1 := bt hb hb1
  go_wp2_with fail
  go_at_call 43
  refine (hT1 _).mono ?_
  rintro e w2 ⟨rfl, hb2⟩
  have x2 := x1.below hb2 x1.lt
  have b2 := bt b1 hb2
  go_wp2_with fail
  go_at_call 43
  refine (hT2 _).mono ?_
  rintro e w3 ⟨rfl, hb3⟩
  have x3 := (x2.below hb3 x2.lt).alloc (.cells #[.int .i64 g, .int .i64 h] 23)
  have b3 := (bt b2 hb3).alloc (bt b2 hb3).size (.cells #[.int .i64 g, .int .i64 h] 23)
  have y3 := Blk.new w3 23 #[.int .i64 g, .int .i64 h]
  have w3l := (x2.below hb3 x2.lt).lt
  go_wp2_with fail
  go_at_call 8
  refine (hF _).mono ?_
  rintro e w4 ⟨rfl, hb4⟩
  have x4 := x3.below hb4 x3.lt
  have b4 := bt b3 hb4
  have y4 := y3.below hb4 y3.lt
  have yy4 := blk2 y4
  have f4 := x4.frozen
  have xk4 := blk2 x4
  cases k4 : ck4 s with
  | false =>
    have Hw := (R1.out k4).out
    have Hw := hid Hw
    have zz1 := blk2 (blk_set2 x4 (.int .i64 0) (.int .i64 0))
    have bb := below_set2 b4 (g := w.heap.size) (Nat.le_refl _) (.int .i64 0) (.int .i64 0)
    clear k4
    go_wp2_with fail
    refine bodyPost_ret (v := .tuple #[gval 0 0, .int .i64 25]) (by simp [results, Tryd.results21, go_sem, zz1]) rfl ?_
    rw [Hw.out.1, Hw.out.2.1, Hw.out.2.2]
    exact ⟨rfl, bb⟩
  | true =>
    have e5 := H5.out k4
    have R2 := hid (R2.out k4)
    have R3 := hid (R3.out k4)
    clear R1 H5 k4
    go_wp2_with fail
    go_at_call 19
    refine (hW _).mono ?_
    rintro e w5 ⟨rfl, hb5⟩
    have x5 := x4.below hb5 x4.lt
    have b5 := bt b4 hb5
    have y5 := y4.below hb5 y4.lt
    have yy5 := blk2 y5
    have f5 := x5.frozen
    have xk5 := blk2 x5
    cases k5 : ck5 s with
    | false =>
      have Hw := hid (R2.out k5).out
      rw [k5] at e5
      have zz1 := blk2 (blk_set2 x5 (.int .i64 0) (.int .i64 0))
      have bb := below_set2 b5 (g := w.heap.size) (Nat.le_refl _) (.int .i64 0) (.int .i64 0)
      clear k5
      go_wp2_with fail
      refine bodyPost_ret (v := .tuple #[gval 0 0, .int .i64 14]) (by simp [results, Tryd.results21, go_sem, zz1]) rfl ?_
      rw [Hw.out.1, Hw.out.2.1, Hw.out.2.2]
      exact ⟨rfl, bb⟩
    | true =>
      have Hw := hid (R3.out k5)
      rw [k5] at e5
      have zz1 := blk2 (blk_set2 x5 (.int .i64 g) (.int .i64 h))
      have bb := below_set2 b5 (g := w.heap.size) (Nat.le_refl _) (.int .i64 g) (.int .i64 h)
      clear k5
      go_wp2_with fail
      refine bodyPost_ret (v := .tuple #[gval g h, .int .i64 0]) (by simp [results, Tryd.results21, go_sem, zz1]) rfl ?_
      rw [Hw.out.1, Hw.out.2.1, Hw.out.2.2]
      exact ⟨rfl, bb⟩
end Go.Proofs.YtkiokdphjfkocaaDoor
