/- The document's own answers for devices (package cofferdamref01): the rest. The document's own answers for devices (package cofferdamref01): what is read, flushed, crashed, new. -/
import Derived.Test.YtplgmlcoeehnfaaGreatJcRef01
import Derived.Lib.ConvBytes
import Derived.Lib.LazyBuf
import Derived.StillTailTactics
import Derived.Test.YtplgmlcoeehnfaaGreatJcPlain1
set_option linter.unusedVariables false
namespace Go.Proofs.YtplgmlcoeehnfaaGreat
open Go.RowKit Go.Shelf
attribute [local go_sem] bs_mk bs_append bs_extract bs_size bs_toList bs_get

end Go.Proofs.YtplgmlcoeehnfaaGreat
set_option linter.unusedVariables false
namespace Go.Proofs.YtplgmlcoeehnfaaGreat
open Go.RowKit Go.Shelf
attribute [local go_sem] bs_mk bs_append bs_extract bs_size bs_toList bs_get

set_option maxHeartbeats 400000 in
theorem r1_sees (D : Dk) (p q : Pl) (w : World) (hD : IsDk w D p q) (k : Int) (hk : D.there k = true) (hl : D.data.length = D.sz * 64) :
    Calls Tryz.prog 53 #[dval D p q, .int .i64 k] w fun e w' => e = .returned (.string (bs (D.sees k))) ∧ Below w.heap.size w w' := by
  obtain ⟨A1, c1⟩ := p
  obtain ⟨A2, c2⟩ := q
  have hcl := hD.cl
  have hdl := hD.data
  have hk' : 0 ≤ k ∧ k < D.sz := by simpa [Dk.there] using hk
  obtain ⟨k, rfl⟩ := Int.eq_ofNat_of_zero_le hk'.1
  have hks : k * 64 + 64 ≤ D.data.length := by rw [hl]; omega
  clear hk hk'
  have Hl := hid hl; clear hl
  have hb := (Below.refl w.heap.size w).alloc (Nat.le_refl _) (.cells #[.string (bs D.data), .slice A1 D.cache.length c1, .int .i64 D.fuse, .bool D.off, .slice A2 D.bad.length c2] 25)
  have hbx := Blk.new w 25 #[.string (bs D.data), .slice A1 D.cache.length c1, .int .i64 D.fuse, .bool D.off, .slice A2 D.bad.length c2]
  go_enter Tryz.func53, Tryz.ntmps53
  go_wp2_with fail
  go_loopw [5] (fun x W => ∃ n : Nat, n ≤ D.cache.length ∧ x = .int .i64 ((n : Int) - 1) ∧ Hid (∀ j (hj : j < D.cache.length), n ≤ j → D.cache[j].1 ≠ k) ∧
      Blk W w.heap.size 25 #[.string (bs D.data), .slice A1 D.cache.length c1, .int .i64 D.fuse, .bool D.off, .slice A2 D.bad.length c2] ∧ Below w.heap.size w W) (fun x _ => (intOf x + 1).toNat)
  case atStart => exact ⟨D.cache.length, Nat.le_refl _, rfl, hid (fun j hj h0 => by omega), hbx, hb⟩
  case round =>
    clear hbx hb
    obtain ⟨n, hn, rfl, hok, hbx, hb⟩ := hrel
    have k0 := blk5 hbx
    by_cases hlt : 0 < n
    · obtain ⟨pb, po, hpa, hcell⟩ := (hD.below hb).cache.put (i := n - 1) (by omega)
      simp only at hpa
      subst hpa
      obtain ⟨x0, x1⟩ := hcell (n - 1) (by omega)
      clear hcell
      have hat := hD.ats _ (List.getElem_mem (show n - 1 < D.cache.length by omega))
      by_cases he : (D.cache[n - 1]'(by omega)).1 = k
      · have he' : ((D.cache[n - 1]'(by omega)).1 == (k : Int)) = true := by simpa using he
        have Hs := hid (show D.sees k = (D.cache[n - 1]'(by omega)).2 by
          rw [Dk.sees, Dk.seesIn_some (show n - 1 < D.cache.length by omega) he (fun j hj hij => hok.out j hj (by omega))]; rfl)
        clear he
        go_wp2_with fail
        go_ret
        exact ⟨by rw [Hs.out]; rfl, hb⟩
      · have he' : ((D.cache[n - 1]'(by omega)).1 == (k : Int)) = false := by simpa using he
        have He := hid he; clear he
        go_wp2_with fail
        go_roundw
        case rel => exact ⟨n - 1, by omega, ret_num (by omega), hid (fun j hj hji => by
          rcases Nat.lt_or_ge j n with h' | h'
          · obtain rfl : j = n - 1 := by omega
            exact He.out
          · exact hok.out j hj h'), hbx, hb⟩
        case measure => simp [intOf]; omega
    · obtain rfl : n = 0 := by omega
      have Hs := hid (show D.sees k = D.sector k by rw [Dk.sees, Dk.seesIn_none (fun j hj => hok.out j hj (by omega))]; simp)
      clear hok
      have m1 : (0 : Int) ≤ (k : Int) * 64 := by omega
      have m2 : (k : Int) * 64 ≤ ((k : Int) + 1) * 64 := by omega
      have m3 : ((k : Int) + 1) * 64 ≤ D.data.length := by omega
      go_wp2_with fail
      go_ret
      exact ⟨by rw [Hs.out]; simp [Dk.sector], hb⟩
set_option maxRecDepth 100000 in
theorem r1_read_off (D : Dk) (p q : Pl) (w : World) (hD : IsDk w D p q) (k : Int) (h1 : D.off = true) :
    Calls Tryz.prog 89 #[dval D p q, .int .i64 k] w fun e w' => e = .returned (.tuple #[.string (bs (D.read k).1), .int .i64 (D.read k).2]) ∧ Below w.heap.size w w' := by
  have Hw := hid (show D.read k = ([], 12) by simp [Dk.read, *])
  obtain ⟨A1, c1⟩ := p
  obtain ⟨A2, c2⟩ := q
  go_enter Tryz.func89, Tryz.ntmps89
  go_wp2_with fail
  go_ret2
  exact ⟨by rw [Hw.out]; rfl, (Below.refl w.heap.size w).alloc (Nat.le_refl _) _⟩
set_option maxRecDepth 100000 in
theorem r1_read_out (D : Dk) (p q : Pl) (w : World) (hD : IsDk w D p q) (k : Int) (h1 : D.off = false) (h2 : D.there k = false) :
    Calls Tryz.prog 89 #[dval D p q, .int .i64 k] w fun e w' => e = .returned (.tuple #[.string (bs (D.read k).1), .int .i64 (D.read k).2]) ∧ Below w.heap.size w w' := by
  have Hw := hid (show D.read k = ([], 10) by simp [Dk.read, *])
  obtain ⟨A1, c1⟩ := p
  obtain ⟨A2, c2⟩ := q
  have hth := r1_there D ⟨A1, c1⟩ ⟨A2, c2⟩ hD.data k
  rw [h2] at hth
  have hb0 := (Below.refl w.heap.size w).alloc (Nat.le_refl _) (.cells #[.string (bs D.data), .slice A1 D.cache.length c1, .int .i64 D.fuse, .bool D.off, .slice A2 D.bad.length c2] 25)
  clear h2
  obtain ⟨data, cache, fuse, off, bad⟩ := D
  simp only at h1
  subst h1
  go_enter Tryz.func89, Tryz.ntmps89
  go_wp2_with (go_at_call 100; refine (hth _).mono ?_; rintro e w1 ⟨rfl, hb1⟩; have b0 := blk_new _ _ hb1; have y0 := blk5 b0)
  go_ret2
  exact ⟨by rw [Hw.out]; rfl, bt hb0 hb1⟩
set_option maxRecDepth 100000 in
theorem r1_read_bad (D : Dk) (p q : Pl) (w : World) (hD : IsDk w D p q) (k : Int) (h1 : D.off = false) (h2 : D.there k = true) (h5 : k ∈ D.bad) :
    Calls Tryz.prog 89 #[dval D p q, .int .i64 k] w fun e w' => e = .returned (.tuple #[.string (bs (D.read k).1), .int .i64 (D.read k).2]) ∧ Below w.heap.size w w' := by
  have Hw := hid (show D.read k = ([], 13) by simp [Dk.read, *])
  obtain ⟨A1, c1⟩ := p
  obtain ⟨A2, c2⟩ := q
  have hth := r1_there D ⟨A1, c1⟩ ⟨A2, c2⟩ hD.data k
  rw [h2] at hth
  have hbd := fun (W : World) (hW : IsDk W D ⟨A1, c1⟩ ⟨A2, c2⟩) => r1_bad D ⟨A1, c1⟩ ⟨A2, c2⟩ W hW k
  simp only [h5] at hbd
  have hb0 := (Below.refl w.heap.size w).alloc (Nat.le_refl _) (.cells #[.string (bs D.data), .slice A1 D.cache.length c1, .int .i64 D.fuse, .bool D.off, .slice A2 D.bad.length c2] 25)
  clear h2 h5
  obtain ⟨data, cache, fuse, off, bad⟩ := D
  simp only at h1
  subst h1
  go_enter Tryz.func89, Tryz.ntmps89
  go_wp2_with (first | (go_at_call 100; refine (hth _).mono ?_; rintro e w1 ⟨rfl, hb1⟩; have b0 := blk_new _ _ hb1; have y0 := blk5 b0) | (go_at_call 149; refine (hbd _ (hD.below (bt hb0 hb1))).mono ?_; rintro e w2 ⟨rfl, hb2⟩; have b02 := b0.below hb2 b0.lt; have y02 := blk5 b02))
  go_ret2
  exact ⟨by rw [Hw.out]; rfl, bt (bt hb0 hb1) hb2⟩
set_option maxRecDepth 100000 in
theorem r1_read_ok (D : Dk) (p q : Pl) (w : World) (hD : IsDk w D p q) (k : Int) (h1 : D.off = false) (h2 : D.there k = true) (h5 : k ∉ D.bad) (hl : D.data.length = D.sz * 64) :
    Calls Tryz.prog 89 #[dval D p q, .int .i64 k] w fun e w' => e = .returned (.tuple #[.string (bs (D.read k).1), .int .i64 (D.read k).2]) ∧ Below w.heap.size w w' := by
  have Hw := hid (show D.read k = (D.sees k, 0) by simp [Dk.read, *])
  obtain ⟨A1, c1⟩ := p
  obtain ⟨A2, c2⟩ := q
  have hth := r1_there D ⟨A1, c1⟩ ⟨A2, c2⟩ hD.data k
  rw [h2] at hth
  have hbd := fun (W : World) (hW : IsDk W D ⟨A1, c1⟩ ⟨A2, c2⟩) => r1_bad D ⟨A1, c1⟩ ⟨A2, c2⟩ W hW k
  simp only [h5] at hbd
  have hb0 := (Below.refl w.heap.size w).alloc (Nat.le_refl _) (.cells #[.string (bs D.data), .slice A1 D.cache.length c1, .int .i64 D.fuse, .bool D.off, .slice A2 D.bad.length c2] 25)
  have H2 := hid h2; clear h2 h5
  have Hl := hid hl; clear hl
  obtain ⟨data, cache, fuse, off, bad⟩ := D
  simp only at h1
  subst h1
  go_enter Tryz.func89, Tryz.ntmps89
  go_wp2_with (first | (go_at_call 100; refine (hth _).mono ?_; rintro e w1 ⟨rfl, hb1⟩; have b0 := blk_new _ _ hb1; have y0 := blk5 b0) | (go_at_call 149; refine (hbd _ (hD.below (bt hb0 hb1))).mono ?_; rintro e w2 ⟨rfl, hb2⟩; have b02 := b0.below hb2 b0.lt; have y02 := blk5 b02) | (go_at_call 53; refine (r1_sees ⟨data, cache, fuse, false, bad⟩ ⟨A1, c1⟩ ⟨A2, c2⟩ _ (hD.below (bt (bt hb0 hb1) hb2)) k H2.out Hl.out).mono ?_; rintro e w3 ⟨rfl, hb3⟩))
  go_ret2
  exact ⟨by rw [Hw.out]; rfl, bt (bt (bt hb0 hb1) hb2) hb3⟩
theorem r1_read (D : Dk) (p q : Pl) (w : World) (hD : IsDk w D p q) (k : Int) (hl : D.data.length = D.sz * 64) :
    Calls Tryz.prog 89 #[dval D p q, .int .i64 k] w fun e w' => e = .returned (.tuple #[.string (bs (D.read k).1), .int .i64 (D.read k).2]) ∧ Below w.heap.size w w' := by
  cases h1 : D.off with
  | true => exact r1_read_off D p q w hD k h1
  | false =>
    cases h2 : D.there k with
    | false => exact r1_read_out D p q w hD k h1 h2
    | true =>
      by_cases h5 : k ∈ D.bad
      · exact r1_read_bad D p q w hD k h1 h2 h5
      · exact r1_read_ok D p q w hD k h1 h2 h5 hl
end Go.Proofs.YtplgmlcoeehnfaaGreat
