/- Package cofferdamlaw05: its example. -/
import Derived.Test.YtjpjpiejcpeepaaPlan9
set_option linter.unusedVariables false
namespace Go.Proofs.Ytjpjpiejcpeepaa
open Go.RowKit Go.Shelf
attribute [local go_sem] bs_mk bs_append bs_extract bs_size bs_toList bs_get

def rp (c : UInt8) (i : Nat) : List UInt8 := List.replicate i c
theorem rp_length (c : UInt8) (i : Nat) : (rp c i).length = i := by simp [rp]
theorem rp_zero (c : UInt8) : rp c 0 = [] := rfl
theorem rp_succ (c : UInt8) (i : Nat) : rp c i ++ [c] = rp c (i + 1) := by simp [rp, List.replicate_succ']
def E5a : Pn := ⟨[3], [rp 115 64]⟩
def E5b : Pn := ⟨[3], [rp 116 64]⟩
def E5d : Dk := ⟨List.replicate 512 0, [], -1, false, []⟩
def E5c : Pn := ⟨[3], [0 :: 120 :: List.replicate 62 0]⟩
theorem e5_seta : Pn.set ⟨[], []⟩ 3 (rp 115 64) = (E5a, 0) := by kernel_rfl
theorem e5_setb : Pn.set E5a 3 (rp 116 64) = (E5b, 0) := by kernel_rfl
theorem e5_new : Dk.fresh 8 = (E5d, 0) := by kernel_rfl
theorem e5_patch : Pn.patch E5d ⟨[], []⟩ 3 1 [120] = (E5c, 0) := by kernel_rfl
theorem e5_fit : E5d.fit = true := by kernel_rfl
theorem e5_pfit : Pn.Fit ⟨[], []⟩ := ⟨rfl, by simp, fun i h => by simp at h, fun i h => by simp at h⟩
theorem e5_lens : (E5a.targets.length = 1 ∧ E5a.data.length = 1) ∧ (E5b.targets.length = 1 ∧ E5b.data.length = 1) ∧ (E5c.targets.length = 1 ∧ E5c.data.length = 1) := by refine ⟨⟨?_, ?_⟩, ⟨?_, ?_⟩, ?_, ?_⟩ <;> rfl
theorem e5_b0 (h : 0 < E5b.data.length) : E5b.data[0] = rp 116 64 := rfl
theorem e5_c0 (h : 0 < E5c.data.length) : E5c.data[0].take 3 = [0, 120, 0] ∧ 3 ≤ E5c.data[0].length := ⟨rfl, by show 3 ≤ (0 :: 120 :: List.replicate 62 0 : List UInt8).length; simp⟩
attribute [irreducible] E5a E5b E5c E5d rp
section
attribute [local go_sem] rp_succ rp_length
set_option maxRecDepth 100000 in
set_option maxHeartbeats 1000000 in
theorem awake05 (w : World) : Calls Try.prog 14 #[] w fun e w' => e = .returned (.bool true) ∧ Below w.heap.size w w' := by
  go_enter Try.func14, Try.ntmps14
  go_wp2_with fail
  go_loopw [1, 2, 10] (fun s t x W => ∃ i : Nat, i ≤ 64 ∧ s = .string (bs (rp 115 i)) ∧ t = .string (bs (rp 116 i)) ∧ x = .int .i64 i ∧ Below w.heap.size w W) (fun s t x _ => 64 - (intOf x).toNat)
  case atStart => exact ⟨0, by omega, by rw [rp_zero]; rfl, by rw [rp_zero]; rfl, rfl, Below.refl _ _⟩
  case round =>
    obtain ⟨i, hi, rfl, rfl, rfl, hB⟩ := hrel
    by_cases hlt : i < 64
    · have hxl : ¬ 9223372036854775807 < (rp 115 i).length + 1 := by rw [rp_length]; omega
      have hyl : ¬ 9223372036854775807 < (rp 116 i).length + 1 := by rw [rp_length]; omega
      go_wp2_with fail
      refine ⟨⟨i + 1, by omega, rfl, rfl, by go_num, hB⟩, ?_⟩
      simp [intOf]; omega
    · obtain rfl : i = 64 := by omega
      have hB0 := hB
      have hs := fun W => pl_set ⟨[], []⟩ ⟨none, 0⟩ ⟨none, 0⟩ W (isPn_zero _) 3 (by omega) (rp 115 64) (by rw [rp_length]; omega) (by simp) rfl
      rw [e5_seta] at hs
      go_wp2_with fail
      go_at_call 15
      refine ((hs _)).mono ?_
      rintro e w1 ⟨⟨p1, q1, rfl, i1, o1⟩, hb1⟩
      replace hB := bt hB hb1
      obtain ⟨⟨l1, l2⟩, ⟨l3, l4⟩, ⟨l5, l6⟩⟩ := e5_lens
      have L1 := hid l1
      have L2 := hid l2
      have L3 := hid l3
      have L4 := hid l4
      have L5 := hid l5
      have L6 := hid l6
      clear l1 l2 l3 l4 l5 l6
      have a1 := i1.apart (Nat.le_refl _)
      have x := Blk.new w1 28 #[.slice p1.a E5a.targets.length p1.c, .slice q1.a E5a.data.length q1.c]
      have xk := blk2 x
      have xkf := x.frozen
      have hB_1 := hB.alloc hB.size (.cells #[.slice p1.a E5a.targets.length p1.c, .slice q1.a E5a.data.length q1.c] 28)
      have i1_2 := i1.below ((Below.refl _ _).alloc (Nat.le_refl _) (.cells #[.slice p1.a E5a.targets.length p1.c, .slice q1.a E5a.data.length q1.c] 28))
      have ht := pl_set E5a p1 q1 _ i1_2 3 (by omega) (rp 116 64) (by rw [rp_length]; omega) (by rw [L1.out]; omega) (by rw [L1.out, L2.out])
      rw [e5_setb] at ht
      have bl := hB_1.size
      simp only [World.size_alloc] at bl
      go_wp2_with fail
      go_at_call 15
      refine ((ht)).mono ?_
      rintro e w2 ⟨⟨p2, q2, rfl, i2, o2⟩, hb2⟩
      replace hB := bt hB_1 hb2
      replace i1 := i1_2.below hb2
      replace x := x.below hb2 x.lt
      replace xk := blk2 x
      replace xkf := x.frozen
      clear hB_1 i1_2
      have a2 := o2 w1.heap.size (by simp) a1
      have bl : wr.heap.size ≤ w1.heap.size := hb1.size
      have bl2 : w.heap.size ≤ w1.heap.size := Nat.le_trans hB0.size bl
      have hB_3 := below_set2 hB (g := w1.heap.size) (by omega) (.slice p2.a E5b.targets.length p2.c) (.slice q2.a E5b.data.length q2.c)
      have x_4 := blk_set2 x (.slice p2.a E5b.targets.length p2.c) (.slice q2.a E5b.data.length q2.c)
      have xk_4 := blk2 x_4
      have xkf_4 := x_4.frozen
      have i2_5 := i2.off2 (g := w1.heap.size) (by first | assumption | omega) (.slice p2.a E5b.targets.length p2.c) (.slice q2.a E5b.data.length q2.c)
      have hn := d_new 8
      rw [e5_new] at hn
      go_wp2_with fail
      go_at_call 31
      refine ((hn _)).mono ?_
      rintro e w3 ⟨⟨p3, q3, rfl, d3⟩, hb3⟩
      replace hB := bt hB_3 hb3
      replace x := x_4.below hb3 x_4.lt
      replace xk := blk2 x
      replace xkf := x.frozen
      replace i2 := i2_5.below hb3
      clear hB_3 xk_4 xkf_4 x_4 i2_5
      have y := Blk.new w3 25 #[.string (bs E5d.data), .slice p3.a E5d.cache.length p3.c, .int .i64 E5d.fuse, .bool E5d.off, .slice q3.a E5d.bad.length q3.c]
      have yk := blk5 y
      have hB_6 := hB.alloc hB.size (.cells #[.string (bs E5d.data), .slice p3.a E5d.cache.length p3.c, .int .i64 E5d.fuse, .bool E5d.off, .slice q3.a E5d.bad.length q3.c] 25)
      have x_7 := x.alloc (.cells #[.string (bs E5d.data), .slice p3.a E5d.cache.length p3.c, .int .i64 E5d.fuse, .bool E5d.off, .slice q3.a E5d.bad.length q3.c] 25)
      have xk_7 := blk2 x_7
      have xkf_7 := x_7.frozen
      have i2_8 := i2.below ((Below.refl _ _).alloc (Nat.le_refl _) (.cells #[.string (bs E5d.data), .slice p3.a E5d.cache.length p3.c, .int .i64 E5d.fuse, .bool E5d.off, .slice q3.a E5d.bad.length q3.c] 25))
      have d3_9 := d3.below ((Below.refl _ _).alloc (Nat.le_refl _) (.cells #[.string (bs E5d.data), .slice p3.a E5d.cache.length p3.c, .int .i64 E5d.fuse, .bool E5d.off, .slice q3.a E5d.bad.length q3.c] 25))
      have hp := pl_patch E5d ⟨[], []⟩ p3 q3 ⟨none, 0⟩ ⟨none, 0⟩ _ d3_9 (isPn_zero _) e5_fit e5_pfit 3 1 (by omega) [120] (by simp)
      rw [e5_patch] at hp
      go_wp2_with fail
      go_at_call 37
      refine ((hp)).mono ?_
      rintro e w4 ⟨⟨p4, q4, rfl, i4, o4⟩, hb4⟩
      replace hB := bt hB_6 hb4
      replace x := x_7.below hb4 x_7.lt
      replace xk := blk2 x
      replace xkf := x.frozen
      replace i2 := i2_8.below hb4
      replace d3 := d3_9.below hb4
      replace y := y.below hb4 y.lt
      replace yk := blk5 y
      clear hB_6 xk_7 xkf_7 x_7 i2_8 d3_9
      have z := Blk.new w4 28 #[.slice p4.a E5c.targets.length p4.c, .slice q4.a E5c.data.length q4.c]
      have zk := blk2 z
      have hB_10 := hB.alloc hB.size (.cells #[.slice p4.a E5c.targets.length p4.c, .slice q4.a E5c.data.length q4.c] 28)
      have x_11 := x.alloc (.cells #[.slice p4.a E5c.targets.length p4.c, .slice q4.a E5c.data.length q4.c] 28)
      have xk_11 := blk2 x_11
      have xkf_11 := x_11.frozen
      have i2_12 := i2.below ((Below.refl _ _).alloc (Nat.le_refl _) (.cells #[.slice p4.a E5c.targets.length p4.c, .slice q4.a E5c.data.length q4.c] 28))
      have d3_13 := d3.below ((Below.refl _ _).alloc (Nat.le_refl _) (.cells #[.slice p4.a E5c.targets.length p4.c, .slice q4.a E5c.data.length q4.c] 28))
      have y_14 := y.alloc (.cells #[.slice p4.a E5c.targets.length p4.c, .slice q4.a E5c.data.length q4.c] 28)
      have yk_14 := blk5 y_14
      have i4_15 := i4.below ((Below.refl _ _).alloc (Nat.le_refl _) (.cells #[.slice p4.a E5c.targets.length p4.c, .slice q4.a E5c.data.length q4.c] 28))
      obtain ⟨P2, c2⟩ := q2
      obtain ⟨P4, c4⟩ := q4
      obtain ⟨b2, f2, e2, hc2⟩ := (i2_12).data.str (i := 0) (by rw [L4.out]; omega)
      obtain ⟨b4, f4, e4, hc4⟩ := (i4_15).data.str (i := 0) (by rw [L6.out]; omega)
      simp only at e2 e4
      subst e2
      subst e4
      have k2 := hc2 0 (by rw [L4.out]; omega)
      have k4 := hc4 0 (by rw [L6.out]; omega)
      rw [e5_b0] at k2
      simp only [Nat.add_zero] at k2 k4
      have m3 : ((E5b.targets.length : Int) == 1) = true := by rw [L3.out]; rfl
      have m4 : ((E5b.data.length : Int) == 1) = true := by rw [L4.out]; rfl
      have m6 : ((E5c.data.length : Int) == 1) = true := by rw [L6.out]; rfl
      have n4 : 0 < E5b.data.length := by rw [L4.out]; omega
      have n6 : 0 < E5c.data.length := by rw [L6.out]; omega
      obtain ⟨m7, m8⟩ := e5_c0 n6
      go_wp2_with fail
      go_ret
      exact ⟨rfl, hB_10⟩
end
end Go.Proofs.Ytjpjpiejcpeepaa
