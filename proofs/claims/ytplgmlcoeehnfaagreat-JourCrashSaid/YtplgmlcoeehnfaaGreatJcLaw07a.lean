/- Package cofferdamlaw07: the example. -/
import Derived.Test.YtplgmlcoeehnfaaGreatJcJourC
import Derived.Test.YtplgmlcoeehnfaaGreatJcJourPlain
set_option linter.unusedVariables false
namespace Go.Proofs.YtplgmlcoeehnfaaGreat
open Go.RowKit Go.Shelf
attribute [local go_sem] bs_mk bs_append bs_extract bs_size bs_toList bs_get
def xb (i : Nat) : List UInt8 := List.replicate i 120
theorem xb_length (i : Nat) : (xb i).length = i := by simp [xb]
theorem xb_succ (i : Nat) : xb i ++ [120] = xb (i + 1) := by simp [xb, List.replicate_succ']
theorem xb_zero : xb 0 = [] := rfl
theorem fds_one {l : List Fd} {x : Nat × Tx} (h : l.map Fd.it = [x]) : ∃ y : Fd, l = [y] ∧ y.it = x := by
  cases l with
  | nil => cases h
  | cons y l =>
    cases l with
    | nil => exact ⟨y, rfl, by simpa using h⟩
    | cons z l => simp at h
theorem size_set5 (w : World) (g : Nat) (a b c d e : Value) : (((((w.setCell ⟨g, 0, none⟩ a).setCell ⟨g, 1, none⟩ b).setCell ⟨g, 2, none⟩ c).setCell ⟨g, 3, none⟩ d).setCell ⟨g, 4, none⟩ e).heap.size = w.heap.size := by simp
attribute [local go_sem] xb_succ
attribute [local irreducible] Dk.blank
set_option maxRecDepth 100000 in
set_option maxHeartbeats 1000000 in
theorem awake07 (w : World) : Calls Tryz.prog 32 #[] w fun e w' => e = .returned (.bool true) ∧ Below w.heap.size w w' := by
  have hn := d_new 112
  rw [show Dk.fresh 112 = (Dk.blank 112, 0) from Dk.fresh_blank (n := 112) (by omega) (by omega)] at hn
  have hf := Dk.blank_fit (n := 112) (by omega) (by omega)
  obtain ⟨G, hcom, hGf, hscan⟩ := e7
  have hpl := fun W => j_place 80 3 (by omega) (by omega) W
  rw [show jrPlace 80 3 = 0 by decide] at hpl
  have hco := fun (W : World) (p q p' q' : Pl) (hD : IsDk W (Dk.blank 112) p q) (hL : IsPn W e7_p p' q') => j_commit (Dk.blank 112) e7_j e7_p p q p' q' W hD hL hf e7_fit (by decide) (by decide)
  rw [hcom] at hco
  have hsc := fun (W : World) (p q : Pl) (hD : IsDk W G p q) => j_scan G p q W hD hGf
  rw [hscan] at hsc
  clear hcom hscan
  go_enter Tryz.func32, Tryz.ntmps32
  go_wp2_with fail
  go_loopw [1, 8] (fun s x W => ∃ i : Nat, i ≤ 64 ∧ s = .string (bs (xb i)) ∧ x = .int .i64 i ∧ W = w) (fun _ x _ => 64 - (intOf x).toNat)
  case atStart => exact ⟨0, by omega, by rw [xb_zero]; rfl, rfl, rfl⟩
  case round =>
    obtain ⟨i, hi, rfl, rfl, rfl⟩ := hrel
    by_cases hlt : i < 64
    · have hxl : ¬ 9223372036854775807 < (xb i).length + 1 := by rw [xb_length]; omega
      go_wp2_with fail
      go_roundw
      case rel => exact ⟨i + 1, by omega, rfl, by go_num, trivial⟩
      case measure => simp [intOf]; omega
    · obtain rfl : i = 64 := by omega
      have hzl := xb_length 64
      have Hp := hid (show e7_p = ⟨[5], [xb 64]⟩ from rfl)
      generalize xb 64 = z at *
      have hB := Below.refl wr.heap.size wr
      go_wp2_with fail
      go_at_call 74
      refine ((hn _)).mono ?_
      rintro e w1 ⟨⟨p1, q1, rfl, d1⟩, hb1⟩
      replace hB := bt hB hb1
      have hap := d1.apart (Nat.le_refl w1.heap.size)
      have x := Blk.new w1 25 #[.string (bs (Dk.blank 112).data), .slice p1.a (Dk.blank 112).cache.length p1.c, .int .i64 (Dk.blank 112).fuse, .bool (Dk.blank 112).off, .slice q1.a (Dk.blank 112).bad.length q1.c]
      have xk := blk5 x
      have xkf := x.frozen
      have hB_1 := hB.alloc hB.size (.cells #[.string (bs (Dk.blank 112).data), .slice p1.a (Dk.blank 112).cache.length p1.c, .int .i64 (Dk.blank 112).fuse, .bool (Dk.blank 112).off, .slice q1.a (Dk.blank 112).bad.length q1.c] 25)
      have d1_2 := d1.below ((Below.refl _ _).alloc (Nat.le_refl _) (.cells #[.string (bs (Dk.blank 112).data), .slice p1.a (Dk.blank 112).cache.length p1.c, .int .i64 (Dk.blank 112).fuse, .bool (Dk.blank 112).off, .slice q1.a (Dk.blank 112).bad.length q1.c] 25))
      have ti := Blk.new (w1.alloc (.cells #[.string (bs (Dk.blank 112).data), .slice p1.a (Dk.blank 112).cache.length p1.c, .int .i64 (Dk.blank 112).fuse, .bool (Dk.blank 112).off, .slice q1.a (Dk.blank 112).bad.length q1.c] 25)) 3 #[.int .i64 5]
      simp only [World.size_alloc] at ti
      have tik := blk1 ti
      have hB_3 := hB_1.alloc hB_1.size (.cells #[.int .i64 5] 3)
      have d1_4 := d1_2.below ((Below.refl _ _).alloc (Nat.le_refl _) (.cells #[.int .i64 5] 3))
      have x_5 := x.alloc (.cells #[.int .i64 5] 3)
      have xk_5 := blk5 x_5
      have xkf_5 := x_5.frozen
      have tz := Blk.new ((w1.alloc (.cells #[.string (bs (Dk.blank 112).data), .slice p1.a (Dk.blank 112).cache.length p1.c, .int .i64 (Dk.blank 112).fuse, .bool (Dk.blank 112).off, .slice q1.a (Dk.blank 112).bad.length q1.c] 25)).alloc (.cells #[.int .i64 5] 3)) 9 #[.string (bs z)]
      simp only [World.size_alloc] at tz
      have tzk := blk1 tz
      have hB_6 := hB_3.alloc hB_3.size (.cells #[.string (bs z)] 9)
      have d1_7 := d1_4.below ((Below.refl _ _).alloc (Nat.le_refl _) (.cells #[.string (bs z)] 9))
      have x_8 := x_5.alloc (.cells #[.string (bs z)] 9)
      have xk_8 := blk5 x_8
      have xkf_8 := x_8.frozen
      have ti_9 := ti.alloc (.cells #[.string (bs z)] 9)
      have tik_9 := blk1 ti_9
      have hL : ∀ (W : World) (a b : Nat), Blk W a 3 #[.int .i64 5] → Blk W b 9 #[.string (bs z)] → IsPn W e7_p ⟨some ⟨a, 0, none⟩, 1⟩ ⟨some ⟨b, 0, none⟩, 1⟩ := fun W a b h1 h2 => by
        rw [Hp.out]
        exact ⟨.inr ⟨a, 0, rfl, fun j u hu => by rw [Nat.zero_add, h1.cell]; simpa [intCells] using hu⟩, .inr ⟨b, 0, rfl, fun j u hu => by rw [Nat.zero_add, h2.cell]; simpa [strCells] using hu⟩, (fun h => by cases h), (fun h => by cases h), Nat.le_refl 1, Nat.le_refl 1, (show 1 ≤ maxLen by decide), (show 1 ≤ maxLen by decide), (fun x hx => by obtain rfl := List.mem_singleton.1 hx; decide), (fun s hs => by obtain rfl := List.mem_singleton.1 hs; rw [hzl]; decide)⟩
      have hc := hco _ _ _ _ _ d1_7 (hL _ _ _ ti_9 tz)
      clear hL
      go_wp2_with fail
      go_at_call 38
      refine ((hc)).mono ?_
      rintro e w2 ⟨⟨p2, q2, rfl, i2, o2⟩, hb2⟩
      replace hB := bt hB_6 hb2
      replace d1 := d1_7.below hb2
      replace x := x_8.below hb2 x_8.lt
      replace xk := blk5 x
      replace xkf := x.frozen
      replace ti := ti_9.below hb2 ti_9.lt
      replace tik := blk1 ti
      replace tz := tz.below hb2 tz.lt
      replace tzk := blk1 tz
      clear hB_1 d1_2 hB_3 d1_4 xk_5 xkf_5 x_5 hB_6 d1_7 xk_8 xkf_8 x_8 tik_9 ti_9
      have xlt := (x).lt
      have s1 := hb1.size
      have s2 := hb2.size
      simp only [World.size_alloc] at s2
      have ho := o2 w1.heap.size (by simp; omega) hap
      have hoj : DkOff w2.heap.size G p2 q2 := i2.apart (Nat.le_refl _)
      have x9 := (blk_set5 x (.string (bs G.data)) (.slice p2.a G.cache.length p2.c) (.int .i64 G.fuse) (.bool G.off) (.slice q2.a G.bad.length q2.c)).alloc (.cells #[.int .u64 2, .int .i64 3] 72)
      have i9 := (i2.off5 ho (.string (bs G.data)) (.slice p2.a G.cache.length p2.c) (.int .i64 G.fuse) (.bool G.off) (.slice q2.a G.bad.length q2.c)).below ((Below.refl _ _).alloc (Nat.le_refl _) (.cells #[.int .u64 2, .int .i64 3] 72))
      have y9 := Blk.new (((((w2.setCell ⟨w1.heap.size, 0, none⟩ (.string (bs G.data))).setCell ⟨w1.heap.size, 1, none⟩ (.slice p2.a G.cache.length p2.c)).setCell ⟨w1.heap.size, 2, none⟩ (.int .i64 G.fuse)).setCell ⟨w1.heap.size, 3, none⟩ (.bool G.off)).setCell ⟨w1.heap.size, 4, none⟩ (.slice q2.a G.bad.length q2.c)) 72 #[.int .u64 2, .int .i64 3]
      rw [size_set5] at y9
      have B9 := (below_set5 hB (g := w1.heap.size) (by omega) (.string (bs G.data)) (.slice p2.a G.cache.length p2.c) (.int .i64 G.fuse) (.bool G.off) (.slice q2.a G.bad.length q2.c)).alloc (by simp; omega) (.cells #[.int .u64 2, .int .i64 3] 72)
      have Hx9 := hid x9
      have Hi9 := hid i9
      have Hy9 := hid y9
      have HB9 := hid B9
      clear x9 i9 y9 B9
      have y := Blk.new w2 72 #[.int .u64 0, .int .i64 0]
      have yk := blk2 y
      have ykf := y.frozen
      have hB_10 := hB.alloc hB.size (.cells #[.int .u64 0, .int .i64 0] 72)
      have x_11 := x.alloc (.cells #[.int .u64 0, .int .i64 0] 72)
      have xk_11 := blk5 x_11
      have xkf_11 := x_11.frozen
      have i2_12 := i2.below ((Below.refl _ _).alloc (Nat.le_refl _) (.cells #[.int .u64 0, .int .i64 0] 72))
      have hB_13 := below_set5 hB_10 (g := w1.heap.size) (by omega) (.string (bs G.data)) (.slice p2.a G.cache.length p2.c) (.int .i64 G.fuse) (.bool G.off) (.slice q2.a G.bad.length q2.c)
      have x_14 := blk_set5 x_11 (.string (bs G.data)) (.slice p2.a G.cache.length p2.c) (.int .i64 G.fuse) (.bool G.off) (.slice q2.a G.bad.length q2.c)
      have xk_14 := blk5 x_14
      have xkf_14 := x_14.frozen
      have i2_15 := i2_12.off5 (g := w1.heap.size) (by first | assumption | omega) (.string (bs G.data)) (.slice p2.a G.cache.length p2.c) (.int .i64 G.fuse) (.bool G.off) (.slice q2.a G.bad.length q2.c)
      have y_16 := blk_off5 y (g := w1.heap.size) (by omega) (.string (bs G.data)) (.slice p2.a G.cache.length p2.c) (.int .i64 G.fuse) (.bool G.off) (.slice q2.a G.bad.length q2.c)
      have yk_16 := blk2 y_16
      have ykf_16 := y_16.frozen
      have hB_17 := below_set2 hB_13 (g := w2.heap.size) (by omega) (.int .u64 2) (.int .i64 3)
      have x_18 := blk_off2 x_14 (g := w2.heap.size) (by omega) (.int .u64 2) (.int .i64 3)
      have xk_18 := blk5 x_18
      have xkf_18 := x_18.frozen
      have i2_19 := i2_15.off2 (g := w2.heap.size) (by first | assumption | omega) (.int .u64 2) (.int .i64 3)
      have y_20 := blk_set2 y_16 (.int .u64 2) (.int .i64 3)
      have yk_20 := blk2 y_20
      have ykf_20 := y_20.frozen
      go_wp2_with fail
      obtain ⟨V, hV⟩ : ∃ V, ((((((w2.setCell ⟨w1.heap.size, 0, none⟩ (.string (bs G.data))).setCell ⟨w1.heap.size, 1, none⟩ (.slice p2.a G.cache.length p2.c)).setCell ⟨w1.heap.size, 2, none⟩ (.int .i64 G.fuse)).setCell ⟨w1.heap.size, 3, none⟩ (.bool G.off)).setCell ⟨w1.heap.size, 4, none⟩ (.slice q2.a G.bad.length q2.c)).alloc (.cells #[.int .u64 2, .int .i64 3] 72)) = V := ⟨_, rfl⟩
      rw [hV] at Hx9 Hi9 Hy9 HB9 ⊢
      clear hV
      have x9 := Hx9.out
      have y9 := Hy9.out
      have k9 := blk2 y9
      have hs := hsc _ _ _ Hi9.out
      clear s1 s2 xlt hap ho hoj hc hsc hco hn
      go_at_call 40
      refine hs.mono ?_
      rintro e w3 ⟨⟨l, v, hl, rfl, hown, hok⟩, hb3⟩
      obtain ⟨f, rfl, hf1⟩ := fds_one hl
      obtain ⟨A, c, rfl, hc1, hc2, hc3⟩ := own_slice hown
      have hcell := Cells.of_own hown
      have hp0 : f.pos = 0 := congrArg Prod.fst hf1
      have hcc : ∃ b off, A = some ⟨b, off, none⟩ ∧ w3.cell? ⟨b, off, none⟩ = some (.int .i64 0) := by
        rcases hcell with h | ⟨b, off, e, hc⟩
        · cases h
        · exact ⟨b, off, e, by have := hc 0 (.int .i64 f.pos) rfl; rw [hp0] at this; exact this⟩
      obtain ⟨b, off, rfl, hcc⟩ := hcc
      clear hcell hown hok hp0 hf1 hl
      have y3 := y9.below hb3 y9.lt
      have k3 := blk2 y3
      have B3 := bt HB9.out hb3
      clear k9 x9 y9
      have hl1 : [f].length = 1 := rfl
      rw [hl1]
      go_wp2_with fail
      go_at_call 33
      refine (hpl _).mono ?_
      rintro e w4 ⟨rfl, hb4⟩
      have hcc4 := cell_below hb4 hcc
      go_wp2_with fail
      go_ret
      exact ⟨rfl, bt B3 hb4⟩
end Go.Proofs.YtplgmlcoeehnfaaGreat
