/- The document's own answers for devices (package cofferdamref01): what is read, flushed, crashed, new. -/
import Derived.Test.YtjpjpiejcpeepaaRef01b
set_option linter.unusedVariables false
namespace Go.Proofs.Ytjpjpiejcpeepaa
open Go.RowKit Go.Shelf
attribute [local go_sem] bs_mk bs_append bs_extract bs_size bs_toList bs_get

set_option maxHeartbeats 400000 in
theorem r1_sees (D : Dk) (p q : Pl) (w : World) (hD : IsDk w D p q) (k : Int) (hk : D.there k = true) (hl : D.data.length = D.sz * 64) :
    Calls Try.prog 24 #[dval D p q, .int .i64 k] w fun e w' => e = .returned (.string (bs (D.sees k))) ∧ Below w.heap.size w w' := by
  obtain ⟨A1, c1⟩ := p
  obtain ⟨A2, c2⟩ := q
  have hcl := hD.cl
  have hdl := hD.data
  have hk' : 0 ≤ k ∧ k < D.sz := by simpa [Dk.there] using hk
  obtain ⟨k, rfl⟩ := Int.eq_ofNat_of_zero_le hk'.1
  have hks : k * 64 + 64 ≤ D.data.length := by rw [hl]; omega
  clear hk hk'
  have Hl := hid hl; clear hl
  have hb := (Below.refl w.heap.size w).alloc (Nat.le_refl _) (.cells #[.string (bs D.data), .slice A1 D.cache.length c1, .int .i64 D.fuse, .bool D.off, .slice A2 D.bad.length c2] 25)
  have hbx := Blk.new w 25 #[.string (bs D.data), .slice A1 D.cache.length c1, .int .i64 D.fuse, .bool D.off, .slice A2 D.bad.length c2]
  go_enter Try.func24, Try.ntmps24
  go_wp2_with fail
  go_loopw [5] (fun x W => ∃ n : Nat, n ≤ D.cache.length ∧ x = .int .i64 ((n : Int) - 1) ∧ Hid (∀ j (hj : j < D.cache.length), n ≤ j → D.cache[j].1 ≠ k) ∧
      Blk W w.heap.size 25 #[.string (bs D.data), .slice A1 D.cache.length c1, .int .i64 D.fuse, .bool D.off, .slice A2 D.bad.length c2] ∧ Below w.heap.size w W) (fun x _ => (intOf x + 1).toNat)
  case atStart => exact ⟨D.cache.length, Nat.le_refl _, rfl, hid (fun j hj h0 => by omega), hbx, hb⟩
  case round =>
    clear hbx hb
    obtain ⟨n, hn, rfl, hok, hbx, hb⟩ := hrel
    have k0 := blk5 hbx
    by_cases hlt : 0 < n
    · obtain ⟨pb, po, hpa, hcell⟩ := (hD.below hb).cache.put (i := n - 1) (by omega)
      simp only at hpa
      subst hpa
      obtain ⟨x0, x1⟩ := hcell (n - 1) (by omega)
      clear hcell
      have hat := hD.ats _ (List.getElem_mem (show n - 1 < D.cache.length by omega))
      by_cases he : (D.cache[n - 1]'(by omega)).1 = k
      · have he' : ((D.cache[n - 1]'(by omega)).1 == (k : Int)) = true := by simpa using he
        have Hs := hid (show D.sees k = (D.cache[n - 1]'(by omega)).2 by
          rw [Dk.sees, Dk.seesIn_some (show n - 1 < D.cache.length by omega) he (fun j hj hij => hok.out j hj (by omega))]; rfl)
        clear he
        go_wp2_with fail
        go_ret
        exact ⟨by rw [Hs.out]; rfl, hb⟩
      · have he' : ((D.cache[n - 1]'(by omega)).1 == (k : Int)) = false := by simpa using he
        have He := hid he; clear he
        go_wp2_with fail
        go_roundw
        case rel => exact ⟨n - 1, by omega, ret_num (by omega), hid (fun j hj hji => by
          rcases Nat.lt_or_ge j n with h' | h'
          · obtain rfl : j = n - 1 := by omega
            exact He.out
          · exact hok.out j hj h'), hbx, hb⟩
        case measure => simp [intOf]; omega
    · obtain rfl : n = 0 := by omega
      have Hs := hid (show D.sees k = D.sector k by rw [Dk.sees, Dk.seesIn_none (fun j hj => hok.out j hj (by omega))]; simp)
      clear hok
      have m1 : (0 : Int) ≤ (k : Int) * 64 := by omega
      have m2 : (k : Int) * 64 ≤ ((k : Int) + 1) * 64 := by omega
      have m3 : ((k : Int) + 1) * 64 ≤ D.data.length := by omega
      go_wp2_with fail
      go_ret
      exact ⟨by rw [Hs.out]; simp [Dk.sector], hb⟩
set_option maxRecDepth 100000 in
theorem r1_read_off (D : Dk) (p q : Pl) (w : World) (hD : IsDk w D p q) (k : Int) (h1 : D.off = true) :
    Calls Try.prog 42 #[dval D p q, .int .i64 k] w fun e w' => e = .returned (.tuple #[.string (bs (D.read k).1), .int .i64 (D.read k).2]) ∧ Below w.heap.size w w' := by
  have Hw := hid (show D.read k = ([], 12) by simp [Dk.read, *])
  obtain ⟨A1, c1⟩ := p
  obtain ⟨A2, c2⟩ := q
  go_enter Try.func42, Try.ntmps42
  go_wp2_with fail
  go_ret2
  exact ⟨by rw [Hw.out]; rfl, (Below.refl w.heap.size w).alloc (Nat.le_refl _) _⟩
set_option maxRecDepth 100000 in
theorem r1_read_out (D : Dk) (p q : Pl) (w : World) (hD : IsDk w D p q) (k : Int) (h1 : D.off = false) (h2 : D.there k = false) :
    Calls Try.prog 42 #[dval D p q, .int .i64 k] w fun e w' => e = .returned (.tuple #[.string (bs (D.read k).1), .int .i64 (D.read k).2]) ∧ Below w.heap.size w w' := by
  have Hw := hid (show D.read k = ([], 10) by simp [Dk.read, *])
  obtain ⟨A1, c1⟩ := p
  obtain ⟨A2, c2⟩ := q
  have hth := r1_there D ⟨A1, c1⟩ ⟨A2, c2⟩ hD.data k
  rw [h2] at hth
  have hb0 := (Below.refl w.heap.size w).alloc (Nat.le_refl _) (.cells #[.string (bs D.data), .slice A1 D.cache.length c1, .int .i64 D.fuse, .bool D.off, .slice A2 D.bad.length c2] 25)
  clear h2
  obtain ⟨data, cache, fuse, off, bad⟩ := D
  simp only at h1
  subst h1
  go_enter Try.func42, Try.ntmps42
  go_wp2_with (go_at_call 56; refine (hth _).mono ?_; rintro e w1 ⟨rfl, hb1⟩; have b0 := blk_new _ _ hb1; have y0 := blk5 b0)
  go_ret2
  exact ⟨by rw [Hw.out]; rfl, bt hb0 hb1⟩
set_option maxRecDepth 100000 in
theorem r1_read_bad (D : Dk) (p q : Pl) (w : World) (hD : IsDk w D p q) (k : Int) (h1 : D.off = false) (h2 : D.there k = true) (h5 : k ∈ D.bad) :
    Calls Try.prog 42 #[dval D p q, .int .i64 k] w fun e w' => e = .returned (.tuple #[.string (bs (D.read k).1), .int .i64 (D.read k).2]) ∧ Below w.heap.size w w' := by
  have Hw := hid (show D.read k = ([], 13) by simp [Dk.read, *])
  obtain ⟨A1, c1⟩ := p
  obtain ⟨A2, c2⟩ := q
  have hth := r1_there D ⟨A1, c1⟩ ⟨A2, c2⟩ hD.data k
  rw [h2] at hth
  have hbd := fun (W : World) (hW : IsDk W D ⟨A1, c1⟩ ⟨A2, c2⟩) => r1_bad D ⟨A1, c1⟩ ⟨A2, c2⟩ W hW k
  simp only [h5] at hbd
  have hb0 := (Below.refl w.heap.size w).alloc (Nat.le_refl _) (.cells #[.string (bs D.data), .slice A1 D.cache.length c1, .int .i64 D.fuse, .bool D.off, .slice A2 D.bad.length c2] 25)
  clear h2 h5
  obtain ⟨data, cache, fuse, off, bad⟩ := D
  simp only at h1
  subst h1
  go_enter Try.func42, Try.ntmps42
  go_wp2_with (first | (go_at_call 56; refine (hth _).mono ?_; rintro e w1 ⟨rfl, hb1⟩; have b0 := blk_new _ _ hb1; have y0 := blk5 b0) | (go_at_call 77; refine (hbd _ (hD.below (bt hb0 hb1))).mono ?_; rintro e w2 ⟨rfl, hb2⟩; have b02 := b0.below hb2 b0.lt; have y02 := blk5 b02))
  go_ret2
  exact ⟨by rw [Hw.out]; rfl, bt (bt hb0 hb1) hb2⟩
set_option maxRecDepth 100000 in
theorem r1_read_ok (D : Dk) (p q : Pl) (w : World) (hD : IsDk w D p q) (k : Int) (h1 : D.off = false) (h2 : D.there k = true) (h5 : k ∉ D.bad) (hl : D.data.length = D.sz * 64) :
    Calls Try.prog 42 #[dval D p q, .int .i64 k] w fun e w' => e = .returned (.tuple #[.string (bs (D.read k).1), .int .i64 (D.read k).2]) ∧ Below w.heap.size w w' := by
  have Hw := hid (show D.read k = (D.sees k, 0) by simp [Dk.read, *])
  obtain ⟨A1, c1⟩ := p
  obtain ⟨A2, c2⟩ := q
  have hth := r1_there D ⟨A1, c1⟩ ⟨A2, c2⟩ hD.data k
  rw [h2] at hth
  have hbd := fun (W : World) (hW : IsDk W D ⟨A1, c1⟩ ⟨A2, c2⟩) => r1_bad D ⟨A1, c1⟩ ⟨A2, c2⟩ W hW k
  simp only [h5] at hbd
  have hb0 := (Below.refl w.heap.size w).alloc (Nat.le_refl _) (.cells #[.string (bs D.data), .slice A1 D.cache.length c1, .int .i64 D.fuse, .bool D.off, .slice A2 D.bad.length c2] 25)
  have H2 := hid h2; clear h2 h5
  have Hl := hid hl; clear hl
  obtain ⟨data, cache, fuse, off, bad⟩ := D
  simp only at h1
  subst h1
  go_enter Try.func42, Try.ntmps42
  go_wp2_with (first | (go_at_call 56; refine (hth _).mono ?_; rintro e w1 ⟨rfl, hb1⟩; have b0 := blk_new _ _ hb1; have y0 := blk5 b0) | (go_at_call 77; refine (hbd _ (hD.below (bt hb0 hb1))).mono ?_; rintro e w2 ⟨rfl, hb2⟩; have b02 := b0.below hb2 b0.lt; have y02 := blk5 b02) | (go_at_call 24; refine (r1_sees ⟨data, cache, fuse, false, bad⟩ ⟨A1, c1⟩ ⟨A2, c2⟩ _ (hD.below (bt (bt hb0 hb1) hb2)) k H2.out Hl.out).mono ?_; rintro e w3 ⟨rfl, hb3⟩))
  go_ret2
  exact ⟨by rw [Hw.out]; rfl, bt (bt (bt hb0 hb1) hb2) hb3⟩
theorem r1_read (D : Dk) (p q : Pl) (w : World) (hD : IsDk w D p q) (k : Int) (hl : D.data.length = D.sz * 64) :
    Calls Try.prog 42 #[dval D p q, .int .i64 k] w fun e w' => e = .returned (.tuple #[.string (bs (D.read k).1), .int .i64 (D.read k).2]) ∧ Below w.heap.size w w' := by
  cases h1 : D.off with
  | true => exact r1_read_off D p q w hD k h1
  | false =>
    cases h2 : D.there k with
    | false => exact r1_read_out D p q w hD k h1 h2
    | true =>
      by_cases h5 : k ∈ D.bad
      · exact r1_read_bad D p q w hD k h1 h2 h5
      · exact r1_read_ok D p q w hD k h1 h2 h5 hl
theorem r1_arm (D : Dk) (p q : Pl) (w : World) (hD : IsDk w D p q) (n : Int) (hn : -9223372036854775808 ≤ n ∧ n ≤ 9223372036854775807) :
    Calls Try.prog 47 #[dval D p q, .int .i64 n] w fun e w' => (e = .returned (dval (D.arm n) p q) ∧ IsDk w' (D.arm n) p q) ∧ Below w.heap.size w w' := by
  go_enter Try.func47, Try.ntmps47
  go_wp2_with fail
  refine bodyPost_ret (v := dval (D.arm n) p q) (by simp [results, Try.results47, go_sem, Dk.arm]) rfl ?_
  exact ⟨⟨rfl, (hD.setFuse (by omega)).below (below_two _ _ _)⟩, below_two _ _ _⟩
set_option maxRecDepth 100000 in
theorem r1_flush_off (D : Dk) (p q : Pl) (w : World) (hD : IsDk w D p q) (h1 : D.off = true) :
    Calls Try.prog 44 #[dval D p q] w fun e w' => RetDk D.flush e w' ∧ Below w.heap.size w w' := by
  have Hw := hid (show D.flush = (D, 12) by simp [Dk.flush, h1])
  go_enter Try.func44, Try.ntmps44
  go_wp2_with fail
  rw [Hw.out]
  refine bodyPost_ret (v := .tuple #[dval D p q, .int .i64 12]) (by simp [results, Try.results44, go_sem, h1]) rfl ?_
  exact ⟨⟨_, _, rfl, hD.below (below_two _ _ _)⟩, below_two _ _ _⟩
set_option maxRecDepth 100000 in
theorem r1_flush_fuse (D : Dk) (p q : Pl) (w : World) (hD : IsDk w D p q) (h1 : D.off = false) (h2 : D.fuse = 0) :
    Calls Try.prog 44 #[dval D p q] w fun e w' => RetDk D.flush e w' ∧ Below w.heap.size w w' := by
  have Hw := hid (show D.flush = ({ D with off := true }, 12) by simp [Dk.flush, h1, h2])
  go_enter Try.func44, Try.ntmps44
  go_wp2_with fail
  rw [Hw.out]
  refine bodyPost_ret (v := .tuple #[dval { D with off := true } p q, .int .i64 12]) (by simp [results, Try.results44, go_sem, h2]) rfl ?_
  exact ⟨⟨_, _, rfl, (hD.setOff true).below (below_two _ _ _)⟩, below_two _ _ _⟩
set_option maxRecDepth 100000 in
set_option maxHeartbeats 400000 in
theorem r1_flush_ok (D : Dk) (p q : Pl) (w : World) (hD : IsDk w D p q) (hf : D.fit = true) (h1 : D.off = false) (h2 : D.fuse ≠ 0) :
    Calls Try.prog 44 #[dval D p q] w fun e w' => RetDk D.flush e w' ∧ Below w.heap.size w w' := by
  have Hw := hid (show D.flush = (({ D with data := D.last fun _ => true, cache := [] } : Dk).burnt, 0) by simp [Dk.flush, h1, h2])
  have hll := Dk.lastN_length hf (fun _ => true) D.cache.length
  obtain ⟨f1, f2, f3, _⟩ := Dk.fit_parts hf
  obtain ⟨A1, c1⟩ := p
  obtain ⟨A2, c2⟩ := q
  have hdone := fun (W : World) (hW : IsDk W D ⟨A1, c1⟩ ⟨A2, c2⟩) => r1_done D ⟨A1, c1⟩ ⟨A2, c2⟩ W hW hf true [] none 0 (.inl rfl) (by simp)
  simp only [Bool.true_or, List.length_nil] at hdone
  change (D.last fun _ => true).length = _ at hll
  generalize (D.last fun _ => true) = L at *
  have hL : L.length ≤ 140737488355328 := by have := hD.data; omega
  clear f1 f2 f3 hll hf
  have hfz : (D.fuse == 0) = false := by simpa using h2
  clear h2
  obtain ⟨data, cache, fuse, off, bad⟩ := D
  simp only at h1 hfz
  subst h1
  obtain ⟨F, hF⟩ : ∃ F, F = if 0 < fuse then fuse - 1 else fuse := ⟨_, rfl⟩
  have hF2 : -9223372036854775808 ≤ F ∧ F ≤ 9223372036854775807 := by have := hD.fuse; simp only at this; rw [hF]; split <;> omega
  have hbn := r1_burnt ⟨L, [], fuse, false, bad⟩ ⟨none, 0⟩ ⟨A2, c2⟩ hD.fuse
  rw [show (⟨L, [], fuse, false, bad⟩ : Dk).burnt = ⟨L, [], F, false, bad⟩ by rw [hF]; rfl] at hbn Hw
  clear hF
  simp only [dval, List.length_nil] at hbn
  go_enter Try.func44, Try.ntmps44
  go_wp2_with (first | (go_at_call 79; refine (hdone _ (hD.below (below_two _ _ _))).mono ?_; rintro e w1 ⟨rfl, hb1⟩; obtain ⟨b0, b1⟩ := blk_two hb1; have y0 := blk5 b0; have y1 := blk5 b1; have y2 := b1.frozen; have y3 := b0.frozen) | (go_at_call 78; refine (hbn _).mono ?_; rintro e w2 ⟨rfl, hb2⟩; have b12 := ((b1.other (a := ⟨w.heap.size, 0, none⟩) (by simp) (.string (bs L))).other (a := ⟨w.heap.size, 1, none⟩) (by simp) (.slice none 0 0)).below hb2 (by have := b1.lt; simpa using this); have y12 := blk5 b12; have y22 := b12.frozen))
  rw [Hw.out]
  have z1 := blk_set5 b12 (.string (bs L)) (.slice none 0 0) (.int .i64 F) (.bool false) (.slice A2 bad.length c2)
  have hb := below_set5 (bt (((bt (below_two _ _ _) hb1).setCell (p := ⟨w.heap.size, 0, none⟩) (Nat.le_refl _) (.string (bs L))).setCell (p := ⟨w.heap.size, 1, none⟩) (Nat.le_refl _) (.slice none 0 0)) hb2) (g := w.heap.size + 1) (by omega) (.string (bs L)) (.slice none 0 0) (.int .i64 F) (.bool false) (.slice A2 bad.length c2)
  have z2 := blk5 z1
  refine bodyPost_ret (v := .tuple #[dval ⟨L, [], F, false, bad⟩ ⟨none, 0⟩ ⟨A2, c2⟩, .int .i64 0]) (by simp [results, Try.results44, go_sem, z2]) rfl ?_
  exact ⟨⟨_, _, rfl, ((hD.flushed hL).setFuse hF2).below hb⟩, hb⟩
theorem r1_flush (D : Dk) (p q : Pl) (w : World) (hD : IsDk w D p q) (hf : D.fit = true) :
    Calls Try.prog 44 #[dval D p q] w fun e w' => RetDk D.flush e w' ∧ Below w.heap.size w w' := by
  cases h1 : D.off with
  | true => exact r1_flush_off D p q w hD h1
  | false =>
    by_cases h2 : D.fuse = 0
    · exact r1_flush_fuse D p q w hD h1 h2
    · exact r1_flush_ok D p q w hD hf h1 h2
set_option maxRecDepth 100000 in
set_option maxHeartbeats 400000 in
theorem r1_crash (D : Dk) (p q : Pl) (w : World) (hD : IsDk w D p q) (hf : D.fit = true) (ks : List Bool) (A3 : Option Addr) (c3 : Nat) (hk : Cells w A3 (boolCells ks)) (hkl : ks.length ≤ 9223372036854775807) :
    Calls Try.prog 48 #[dval D p q, .slice A3 ks.length c3] w fun e w' => (∃ p' q', e = .returned (dval (D.crash fun i => ks.getD i false) p' q') ∧ IsDk w' (D.crash fun i => ks.getD i false) p' q') ∧ Below w.heap.size w w' := by
  have hll := Dk.lastN_length hf (fun i => ks.getD i false) D.cache.length
  obtain ⟨f1, f2, f3, _⟩ := Dk.fit_parts hf
  obtain ⟨A1, c1⟩ := p
  obtain ⟨A2, c2⟩ := q
  have hdone := fun (W : World) (hW : IsDk W D ⟨A1, c1⟩ ⟨A2, c2⟩) (hB : Below w.heap.size w W) => r1_done D ⟨A1, c1⟩ ⟨A2, c2⟩ W hW hf false ks A3 c3 (hk.below hB) hkl
  simp only [Bool.false_or] at hdone
  have Hw := hid (show (D.crash fun i => ks.getD i false) = { D with data := D.last fun i => ks.getD i false, cache := [], fuse := -1, off := false } from rfl)
  change (D.last fun i => ks.getD i false).length = _ at hll
  generalize (D.last fun i => ks.getD i false) = L at *
  have hL : L.length ≤ 140737488355328 := by have := hD.data; omega
  clear f1 f2 f3 hll hf
  go_enter Try.func48, Try.ntmps48
  go_wp2_with (go_at_call 79; refine (hdone _ (hD.below (below_two _ _ _)) (below_two _ _ _)).mono ?_; rintro e w1 ⟨rfl, hb1⟩; obtain ⟨b0, b1⟩ := blk_two hb1; have y0 := blk5 b0; have y1 := blk5 b1; have y2 := b1.frozen; have y3 := b0.frozen)
  rw [Hw.out]
  have b1' := (((b1.other (a := ⟨w.heap.size, 0, none⟩) (by simp) (.string (bs L))).other (a := ⟨w.heap.size, 1, none⟩) (by simp) (.slice none 0 0)).other (a := ⟨w.heap.size, 2, none⟩) (by simp) (.int .i64 (-1))).other (a := ⟨w.heap.size, 3, none⟩) (by simp) (.bool false)
  have hb' := ((((bt (below_two _ _ _) hb1).setCell (p := ⟨w.heap.size, 0, none⟩) (Nat.le_refl _) (.string (bs L))).setCell (p := ⟨w.heap.size, 1, none⟩) (Nat.le_refl _) (.slice none 0 0)).setCell (p := ⟨w.heap.size, 2, none⟩) (Nat.le_refl _) (.int .i64 (-1))).setCell (p := ⟨w.heap.size, 3, none⟩) (Nat.le_refl _) (.bool false)
  have z1 := blk_set5 b1' (.string (bs L)) (.slice none 0 0) (.int .i64 (-1)) (.bool false) (.slice A2 D.bad.length c2)
  have hb := below_set5 hb' (g := w.heap.size + 1) (by omega) (.string (bs L)) (.slice none 0 0) (.int .i64 (-1)) (.bool false) (.slice A2 D.bad.length c2)
  have z2 := blk5 z1
  refine bodyPost_ret (v := dval ⟨L, [], -1, false, D.bad⟩ ⟨none, 0⟩ ⟨A2, c2⟩) (by simp [results, Try.results48, go_sem, z2]) rfl ?_
  exact ⟨⟨_, _, rfl, (((hD.flushed hL).setFuse (n := -1) (by omega)).setOff false).below hb⟩, hb⟩
theorem r1_new_bad (n : Int) (h : n < 1 ∨ 1024 < n) (w : World) :
    Calls Try.prog 32 #[.int .i64 n] w fun e w' => RetDk (Dk.fresh n) e w' ∧ Below w.heap.size w w' := by
  have Hw := hid (show Dk.fresh n = (⟨[], [], 0, false, []⟩, 11) by simp [Dk.fresh, h])
  by_cases h0 : n < 1
  · clear h
    go_enter Try.func32, Try.ntmps32
    go_wp2_with fail
    rw [Hw.out]
    refine bodyPost_ret (v := .tuple #[dval ⟨[], [], 0, false, []⟩ ⟨none, 0⟩ ⟨none, 0⟩, .int .i64 11]) (by simp [results, Try.results32, go_sem]) rfl ?_
    exact ⟨⟨_, _, rfl, isDk_zero _⟩, (Below.refl _ _).alloc (Nat.le_refl _) _⟩
  · have h1 : 1024 < n := by omega
    clear h
    go_enter Try.func32, Try.ntmps32
    go_wp2_with fail
    rw [Hw.out]
    refine bodyPost_ret (v := .tuple #[dval ⟨[], [], 0, false, []⟩ ⟨none, 0⟩ ⟨none, 0⟩, .int .i64 11]) (by simp [results, Try.results32, go_sem]) rfl ?_
    exact ⟨⟨_, _, rfl, isDk_zero _⟩, (Below.refl _ _).alloc (Nat.le_refl _) _⟩
theorem Try.infoByte' : (Try.prog.info? 5).map (fun i => (i.zero, i.size, i.bytes)) = some (some (.int .u8 0), 1, 1) := by kernel_rfl
set_option maxRecDepth 100000 in
theorem r1_new_ok (n : Nat) (h0 : 1 ≤ n) (h1 : n ≤ 1024) (w : World) :
    Calls Try.prog 32 #[.int .i64 n] w fun e w' => RetDk (Dk.fresh n) e w' ∧ Below w.heap.size w w' := by
  have Hw := hid (show Dk.fresh n = (⟨List.replicate (n * 64) 0, [], -1, false, []⟩, 0) by rw [Dk.fresh, if_neg (by omega), Nat.mul_comm]; simp)
  obtain ⟨i0, hi, hz0, hz1, hz2⟩ := info_parts Try.infoByte'
  have hmk := fun W => run_make_rowN (P := Try.prog) 96 5 i0 (.int .u8 0) Try.underlying96 hi hz0 .i64 .i64 (n * 64) (n * 64) (Nat.le_refl _) (by rw [hz2]; omega) (by omega) W
  rw [hz1, Nat.mul_one, show ((n * 64 : Nat) : Int) = (n : Int) * 64 by omega] at hmk
  have hcv := fun (W : World) => run_convert_bytes_back (P := Try.prog) (W.alloc (.cells (madeCells #[.int .u8 0] (n * 64)) 5)) 96 9 5 ⟨W.heap.size, 0, none⟩ (n * 64) (List.replicate (n * 64) 0) Try.underlying96 Try.underlying5 Try.underlying9 (fun j hj => by
    have hj' : j < n * 64 := by simpa using hj
    rw [add_at, (Blk.new W _ _).cell, ← Array.getElem?_toList, toList_madeCells_one]; simp [hj'])
  simp only [List.length_replicate] at hcv
  have hcv2 := hcv (w.alloc (.cells #[.string (bs []), .slice none 0 0, .int .i64 0, .bool false, .slice none 0 0] 25))
  rw [bs_mk, World.size_alloc] at hcv2
  clear hcv
  go_enter Try.func32, Try.ntmps32
  go_wp2_with fail
  rw [Hw.out]
  refine bodyPost_ret (v := .tuple #[dval ⟨List.replicate (n * 64) 0, [], -1, false, []⟩ ⟨none, 0⟩ ⟨none, 0⟩, .int .i64 0]) (by simp [results, Try.results32, go_sem]) rfl ?_
  exact ⟨⟨_, _, rfl, isDk_new _ _ (by simp; omega)⟩, below_two _ _ _⟩
theorem r1_new (n : Int) (w : World) :
    Calls Try.prog 32 #[.int .i64 n] w fun e w' => RetDk (Dk.fresh n) e w' ∧ Below w.heap.size w w' := by
  by_cases h : n < 1 ∨ 1024 < n
  · exact r1_new_bad n h w
  · obtain ⟨k, rfl⟩ := Int.eq_ofNat_of_zero_le (show 0 ≤ n by omega)
    exact r1_new_ok k (by omega) (by omega) w
end Go.Proofs.Ytjpjpiejcpeepaa
