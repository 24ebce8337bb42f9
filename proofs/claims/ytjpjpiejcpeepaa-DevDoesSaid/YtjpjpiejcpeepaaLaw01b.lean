/- Package cofferdamlaw01: its example. -/
import Derived.Test.YtjpjpiejcpeepaaLaw01a
set_option linter.unusedVariables false
namespace Go.Proofs.Ytjpjpiejcpeepaa
open Go.RowKit Go.Shelf
attribute [local go_sem] bs_mk bs_append bs_extract bs_size bs_toList bs_get

def xs (i : Nat) : List UInt8 := List.replicate i 120
theorem xs_length (i : Nat) : (xs i).length = i := by simp [xs]
theorem xs_zero : xs 0 = [] := rfl
theorem xs_succ (i : Nat) : xs i ++ [120] = xs (i + 1) := by simp [xs, List.replicate_succ']
def x64 : List UInt8 := xs 64
def D0 : Dk := ⟨List.replicate 128 0, [], -1, false, []⟩
def D1 : Dk := ⟨List.replicate 128 0, [((1 : Int), x64)], -1, false, []⟩
def D2 : Dk := ⟨List.replicate 64 0 ++ x64, [], -1, false, []⟩
def D3 : Dk := ⟨List.replicate 128 0, [], 0, false, []⟩
def D4 : Dk := ⟨List.replicate 128 0, [], 0, true, []⟩
theorem ex_new : Dk.fresh 2 = (D0, 0) := by kernel_rfl
theorem ex_write : D0.write 1 x64 = (D1, 0) := by kernel_rfl
theorem ex_none : (D1.crash fun i => ([] : List Bool).getD i false) = D0 := by kernel_rfl
theorem ex_one : (D1.crash fun i => [true].getD i false) = D2 := by kernel_rfl
def o64 : List UInt8 := List.replicate 64 0
theorem o64_length : o64.length = 64 := by simp [o64]
theorem ex_read0 : D0.read 1 = (o64, 0) := by kernel_rfl
theorem ex_read2 : D2.read 1 = (x64, 0) := by kernel_rfl
theorem ex_arm : D0.arm 0 = D3 := by kernel_rfl
theorem ex_write3 : D3.write 1 x64 = (D4, 12) := by kernel_rfl
theorem ex_read4 : D4.read 0 = ([], 12) := by kernel_rfl
theorem ex_l0 : D0.data.length = D0.sz * 64 := by kernel_rfl
theorem ex_l2 : D2.data.length = D2.sz * 64 := by kernel_rfl
theorem ex_l4 : D4.data.length = D4.sz * 64 := by kernel_rfl
theorem x64_le : x64.length ≤ 9223372036854775807 := by
  show (xs 64).length ≤ _
  rw [xs_length]; omega
theorem ex_fit : D1.fit = true := by kernel_rfl
theorem o64_at : o64[0]? = some 0 := rfl
theorem o64_get (h : 0 < o64.length) : o64[0] = 0 := rfl
theorem x64_eq : xs 64 = x64 := rfl
attribute [irreducible] D0 D1 D2 D3 D4 o64 x64 xs
attribute [local go_sem] xs_succ o64_length o64_get
set_option maxRecDepth 100000 in
set_option maxHeartbeats 1000000 in
theorem awake01 (w : World) : Calls Try.prog 21 #[] w fun e w' => e = .returned (.bool true) ∧ Below w.heap.size w w' := by
  go_enter Try.func21, Try.ntmps21
  go_wp2_with fail
  go_loopw [1, 14] (fun s x W => ∃ i : Nat, i ≤ 64 ∧ s = .string (bs (xs i)) ∧ x = .int .i64 i ∧ Below w.heap.size w W) (fun s x _ => 64 - (intOf x).toNat)
  case atStart => exact ⟨0, by omega, by rw [xs_zero]; rfl, rfl, Below.refl _ _⟩
  case round =>
    obtain ⟨i, hi, rfl, rfl, hB⟩ := hrel
    by_cases hlt : i < 64
    · have hxl : ¬ 9223372036854775807 < (xs i).length + 1 := by rw [xs_length]; omega
      go_wp2_with fail
      refine ⟨⟨i + 1, by omega, rfl, by go_num, hB⟩, ?_⟩
      simp [intOf]; omega
    · obtain rfl : i = 64 := by omega
      rw [x64_eq]
      have hnew := d_new 2
      rw [ex_new] at hnew
      go_wp2_with fail
      go_at_call 31
      refine (hnew _).mono ?_
      rintro e w1 ⟨⟨p1, q1, rfl, hD1⟩, hb1⟩
      have i0 : IsDk (w1.alloc (.cells #[.string (bs D0.data), .slice p1.a D0.cache.length p1.c, .int .i64 D0.fuse, .bool D0.off, .slice q1.a D0.bad.length q1.c] 25)) D0 p1 q1 := hD1.below ((Below.refl _ _).alloc (Nat.le_refl _) _)
      have bd := Blk.new w1 25 #[.string (bs D0.data), .slice p1.a D0.cache.length p1.c, .int .i64 D0.fuse, .bool D0.off, .slice q1.a D0.bad.length q1.c]
      have y0 := blk5 bd
      go_wp2_with fail
      go_at_call 25
      refine (d_write D0 p1 q1 _ i0 1 (by omega) x64 x64_le).mono ?_
      rw [ex_write]
      rintro e w2 ⟨⟨p2, q2, rfl, hD2⟩, hb2⟩
      have i1 : IsDk (w2.alloc (.cells #[.string (bs D1.data), .slice p2.a D1.cache.length p2.c, .int .i64 D1.fuse, .bool D1.off, .slice q2.a D1.bad.length q2.c] 25)) D1 p2 q2 := hD2.below ((Below.refl _ _).alloc (Nat.le_refl _) _)
      have m2 : IsDk (w2.alloc (.cells #[.string (bs D1.data), .slice p2.a D1.cache.length p2.c, .int .i64 D1.fuse, .bool D1.off, .slice q2.a D1.bad.length q2.c] 25)) D0 p1 q1 := (i0.below hb2).below ((Below.refl _ _).alloc (Nat.le_refl _) _)
      have bd2 := (bd.below hb2 bd.lt).alloc (.cells #[.string (bs D1.data), .slice p2.a D1.cache.length p2.c, .int .i64 D1.fuse, .bool D1.off, .slice q2.a D1.bad.length q2.c] 25)
      have bw2 := Blk.new w2 25 #[.string (bs D1.data), .slice p2.a D1.cache.length p2.c, .int .i64 D1.fuse, .bool D1.off, .slice q2.a D1.bad.length q2.c]
      have y0 := blk5 bd2
      have y1 := blk5 bw2
      go_wp2_with fail
      go_at_call 22
      refine (d_crash D1 p2 q2 _ i1 ex_fit [] none 0 (.inl rfl) (by simp)).mono ?_
      rw [ex_none]
      rintro e w3 ⟨⟨p3, q3, rfl, hD3⟩, hb3⟩
      have i3 := i1.below hb3
      have m3 := m2.below hb3
      have bd3 := bd2.below hb3 bd2.lt
      have bw3 := bw2.below hb3 bw2.lt
      go_wp2_with fail
      go_at_call 27
      refine (d_read D0 p3 q3 _ hD3 1 ex_l0).mono ?_
      rw [ex_read0]
      rintro e w4 ⟨rfl, hb4⟩
      have i4 := (i3.below hb4).below ((Below.refl _ _).alloc (Nat.le_refl _) (.cells #[.bool true] 4))
      have m4 := (m3.below hb4).below ((Below.refl _ _).alloc (Nat.le_refl _) (.cells #[.bool true] 4))
      have bd4 := (bd3.below hb4 bd3.lt)
      have bw4 := (bw3.below hb4 bw3.lt)
      have y0 := blk5 bd4
      have y1 := blk5 bw4
      have bd4' := bd4.alloc (.cells #[.bool true] 4)
      have bw4' := bw4.alloc (.cells #[.bool true] 4)
      have y0' := blk5 bd4'
      have y1' := blk5 bw4'
      go_wp2_with fail
      go_at_call 22
      refine (d_crash D1 p2 q2 _ i4 ex_fit [true] (some ⟨w4.heap.size, 0, none⟩) 1 (cells_new _ [.bool true] _) (by simp)).mono ?_
      rw [ex_one]
      rintro e w5 ⟨⟨p5, q5, rfl, hD5⟩, hb5⟩
      have m5 := m4.below hb5
      have bd5 := bd4'.below hb5 bd4'.lt
      go_wp2_with fail
      go_at_call 27
      refine (d_read D2 p5 q5 _ hD5 1 ex_l2).mono ?_
      rw [ex_read2]
      rintro e w6 ⟨rfl, hb6⟩
      have m6 := m5.below hb6
      have bd6 := bd5.below hb6 bd5.lt
      have y6 := blk5 bd6
      go_wp2_with fail
      go_at_call 46
      refine (d_arm D0 p1 q1 _ m6 0 (by omega)).mono ?_
      rw [ex_arm]
      rintro e w7 ⟨⟨rfl, hD7⟩, hb7⟩
      go_wp2_with fail
      go_at_call 25
      refine (d_write D3 p1 q1 _ hD7 1 (by omega) x64 x64_le).mono ?_
      rw [ex_write3]
      rintro e w8 ⟨⟨p8, q8, rfl, hD8⟩, hb8⟩
      have i8 : IsDk (w8.alloc (.cells #[.string (bs D4.data), .slice p8.a D4.cache.length p8.c, .int .i64 D4.fuse, .bool D4.off, .slice q8.a D4.bad.length q8.c] 25)) D4 p8 q8 := hD8.below ((Below.refl _ _).alloc (Nat.le_refl _) _)
      have b8 := Blk.new w8 25 #[.string (bs D4.data), .slice p8.a D4.cache.length p8.c, .int .i64 D4.fuse, .bool D4.off, .slice q8.a D4.bad.length q8.c]
      have y8 := blk5 b8
      go_wp2_with fail
      go_at_call 27
      refine (d_read D4 p8 q8 _ (by first | exact i8 | exact hD8) 0 ex_l4).mono ?_
      rw [ex_read4]
      rintro e w9 ⟨rfl, hb9⟩
      go_wp2_with fail
      go_ret
      have c1 := bt hB hb1
      have c2 := bt (c1.alloc c1.size _) hb2
      have c3 := bt (c2.alloc c2.size _) hb3
      have c4 := bt c3 hb4
      have c5 := bt (c4.alloc c4.size _) hb5
      have c6 := bt c5 hb6
      have c7 := bt c6 hb7
      have c8 := bt c7 hb8
      exact ⟨rfl, bt (c8.alloc c8.size _) hb9⟩
end Go.Proofs.Ytjpjpiejcpeepaa
