/- Package jour: places, and steps on a device. Package jour: steps on a device, one after another. -/
import Derived.Test.YtplgmlcoeehnfaaGreatJcJourPlain
import Derived.Test.YtplgmlcoeehnfaaGreatJcSuper1
import Derived.Test.YtplgmlcoeehnfaaGreatJcLay2
set_option linter.unusedVariables false
namespace Go.Proofs.YtplgmlcoeehnfaaGreat
open Go.RowKit Go.Shelf
attribute [local go_sem] bs_mk bs_append bs_extract bs_size bs_toList bs_get
abbrev jval (j : Jr) : Value := .agg #[.int .u64 j.seq, .int .i64 j.pos]
theorem j_span (w : World) : Calls Tryz.prog 75 #[] w fun e w' => e = .returned (.tuple #[.int .i64 6, .int .i64 81]) ∧ Below w.heap.size w w' := by
  go_enter Tryz.func75, Tryz.ntmps75
  go_wp2_with fail
  go_at_call 131
  refine (s_journal _).mono ?_
  rintro e w1 ⟨rfl, hb⟩
  go_wp2_with fail
  go_ret2
  exact ⟨rfl, hb⟩
theorem jrPlace_no {pos size : Int} (h : pos < 0 ∨ size < 0 ∨ 81 < size ∨ 81 - size < pos) : jrPlace pos size = 0 := by unfold jrPlace; rw [if_pos h]
theorem jrPlace_yes {pos size : Int} (h : ¬ (pos < 0 ∨ size < 0 ∨ 81 < size ∨ 81 - size < pos)) : jrPlace pos size = pos := by unfold jrPlace; rw [if_neg h]
theorem j_place (pos size : Int) (h1 : -9223372036854775808 ≤ pos ∧ pos ≤ 9223372036854775807) (h2 : -9223372036854775808 ≤ size ∧ size ≤ 9223372036854775807) (w : World) :
    Calls Tryz.prog 33 #[.int .i64 pos, .int .i64 size] w fun e w' => e = .returned (.int .i64 (jrPlace pos size)) ∧ Below w.heap.size w w' := by
  by_cases a1 : pos < 0
  · have Hw := hid (jrPlace_no (pos := pos) (size := size) (.inl a1))
    go_enter Tryz.func33, Tryz.ntmps33
    go_wp2_with fail
    go_at_call 75
    refine (j_span _).mono ?_
    rintro e w1 ⟨rfl, hb⟩
    go_wp2_with fail
    go_ret
    exact ⟨by rw [Hw.out]; rfl, hb⟩
  by_cases a2 : size < 0
  · have Hw := hid (jrPlace_no (pos := pos) (size := size) (.inr (.inl a2)))
    go_enter Tryz.func33, Tryz.ntmps33
    go_wp2_with fail
    go_at_call 75
    refine (j_span _).mono ?_
    rintro e w1 ⟨rfl, hb⟩
    go_wp2_with fail
    go_ret
    exact ⟨by rw [Hw.out]; rfl, hb⟩
  by_cases a3 : 81 < size
  · have Hw := hid (jrPlace_no (pos := pos) (size := size) (.inr (.inr (.inl a3))))
    go_enter Tryz.func33, Tryz.ntmps33
    go_wp2_with fail
    go_at_call 75
    refine (j_span _).mono ?_
    rintro e w1 ⟨rfl, hb⟩
    go_wp2_with fail
    go_ret
    exact ⟨by rw [Hw.out]; rfl, hb⟩
  have w8 := i64w (x := 81 - size) ⟨by omega, by omega⟩
  by_cases a4 : 81 - size < pos
  · have Hw := hid (jrPlace_no (pos := pos) (size := size) (.inr (.inr (.inr a4))))
    go_enter Tryz.func33, Tryz.ntmps33
    go_wp2_with fail
    go_at_call 75
    refine (j_span _).mono ?_
    rintro e w1 ⟨rfl, hb⟩
    go_wp2_with fail
    go_ret
    exact ⟨by rw [Hw.out]; rfl, hb⟩
  · have Hw := hid (jrPlace_yes (pos := pos) (size := size) (by omega))
    go_enter Tryz.func33, Tryz.ntmps33
    go_wp2_with fail
    go_at_call 75
    refine (j_span _).mono ?_
    rintro e w1 ⟨rfl, hb⟩
    go_wp2_with fail
    go_ret
    exact ⟨by rw [Hw.out]; rfl, hb⟩
theorem jrFit_no {j : Jr} (h : j.seq = 0 ∨ 4611686018427387904 < j.seq ∨ j.pos < 0 ∨ 81 < j.pos) : jrFit j = false := by
  rw [← Bool.not_eq_true, jrFit_iff]; omega
theorem jrFit_yes {j : Jr} (h : ¬ (j.seq = 0 ∨ 4611686018427387904 < j.seq ∨ j.pos < 0 ∨ 81 < j.pos)) : jrFit j = true := jrFit_iff.2 (by omega)
theorem r7_fit (j : Jr) (h1 : j.seq < 18446744073709551616) (h2 : -9223372036854775808 ≤ j.pos ∧ j.pos ≤ 9223372036854775807) (w : World) :
    Calls Tryz.prog 35 #[jval j] w fun e w' => e = .returned (.bool (jrFit j)) ∧ Below w.heap.size w w' := by
  have x0 := Blk.new w 72 #[.int .u64 j.seq, .int .i64 j.pos]
  have hb := (Below.refl w.heap.size w).alloc (Nat.le_refl _) (.cells #[.int .u64 j.seq, .int .i64 j.pos] 72)
  have k0 := blk2 x0
  have Hno := hid (@jrFit_no j)
  have Hyes := hid (@jrFit_yes j)
  obtain ⟨s, p⟩ := j
  simp only at h1 h2
  by_cases a1 : s = 0
  · have Hw := hid (Hno.out (.inl a1))
    subst a1
    go_enter Tryz.func35, Tryz.ntmps35
    go_wp2_with fail
    go_ret
    exact ⟨by rw [Hw.out]; rfl, hb⟩
  by_cases a2 : 4611686018427387904 < s
  · have Hw := hid (Hno.out (.inr (.inl a2)))
    have a2' : (4611686018427387904 : Int) < (s : Int) := by omega
    have a1' : (1 : Int) ≤ (s : Int) := by omega
    go_enter Tryz.func35, Tryz.ntmps35
    go_wp2_with fail
    go_ret
    exact ⟨by rw [Hw.out]; rfl, hb⟩
  by_cases a3 : p < 0
  · have Hw := hid (Hno.out (.inr (.inr (.inl a3))))
    have a3' : decide (0 ≤ p) = false := decide_eq_false (by omega)
    have a2' : (s : Int) ≤ 4611686018427387904 := by omega
    have a1' : (1 : Int) ≤ (s : Int) := by omega
    go_enter Tryz.func35, Tryz.ntmps35
    go_wp2_with fail
    go_ret
    exact ⟨by rw [Hw.out]; rfl, hb⟩
  by_cases a4 : 81 < p
  · have Hw := hid (Hno.out (.inr (.inr (.inr a4))))
    have a4' : decide (p ≤ 81) = false := decide_eq_false (by omega)
    have a2' : (s : Int) ≤ 4611686018427387904 := by omega
    have a1' : (1 : Int) ≤ (s : Int) := by omega
    go_enter Tryz.func35, Tryz.ntmps35
    go_wp2_with fail
    go_ret
    exact ⟨by rw [Hw.out]; rfl, hb⟩
  · have Hw := hid (Hyes.out (by simp only; omega))
    have a4' : decide (p ≤ 81) = true := decide_eq_true (by omega)
    have a2' : (s : Int) ≤ 4611686018427387904 := by omega
    have a1' : (1 : Int) ≤ (s : Int) := by omega
    go_enter Tryz.func35, Tryz.ntmps35
    go_wp2_with fail
    go_ret
    exact ⟨by rw [Hw.out]; rfl, hb⟩
/-- A device that is being written in a box at B0; a result box behind it. -/
structure RowBox (V : World) (B0 : Nat) (t : TypeId) (D0 : Dk) (p0 q0 : Pl) (X : Dk) : Prop where
  ex : ∃ p q : Pl, Blk V B0 t #[.string (bs X.data), .slice p.a X.cache.length p.c, .int .i64 X.fuse, .bool X.off, .slice q.a X.bad.length q.c] ∧ IsDk V X p q ∧ (∀ g, g ≤ B0 + 1 → (g < B0 → DkOff g D0 p0 q0) → DkOff g X p q)
  zero : Blk V (B0 + 1) t #[.string (bs []), .slice none 0 0, .int .i64 0, .bool false, .slice none 0 0]
set_option maxRecDepth 100000 in
set_option maxHeartbeats 1000000 in
theorem j_rows1 (D : Dk) (p q : Pl) (at_ : Int) (l : List (List UInt8)) (A : Option Addr) (c G1 G2 : Nat) (w : World) (hD : IsDk w D p q) (h1 : Blk w G1 26 #[.slice A l.length c]) (h2 : Blk w G2 3 #[.int .i64 at_]) (hA : Cells w A (strCells l))
    (hat : 0 ≤ at_ ∧ at_ ≤ 1000000) (hl : l.length ≤ 1000000) (hs : ∀ s ∈ l, s.length ≤ 9223372036854775807) :
    Calls Tryz.prog 142 #[dval D p q, .pointer (some ⟨G1, 0, none⟩), .pointer (some ⟨G2, 0, none⟩)] w fun e w' => RetDkN w.heap.size D p q (Dk.layIn (rowsFrom at_ l) D) e w' ∧ Below w.heap.size w w' := by
  have HAt := hid (fun (W : World) (hb : Below w.heap.size w W) => hA.below hb)
  have HDo := hid (fun g (hg : w.heap.size ≤ g) => hD.apart hg)
  have HDW := hid (fun (W : World) (hb : Below w.heap.size w W) => (hD.below hb : IsDk W D p q))
  have H1 := hid (fun (W : World) (hb : Below w.heap.size w W) => blk1 (h1.below hb h1.lt))
  have H2 := hid (fun (W : World) (hb : Below w.heap.size w W) => blk1 (h2.below hb h2.lt))
  have hg1 := h1.lt
  have hg2 := h2.lt
  clear hD hA h1 h2
  obtain ⟨A1, a1⟩ := p
  obtain ⟨A2, a2⟩ := q
  have hB := Below.refl w.heap.size w
  have x := Blk.new w 25 #[.string (bs D.data), .slice A1 D.cache.length a1, .int .i64 D.fuse, .bool D.off, .slice A2 D.bad.length a2]
  have xk := blk5 x
  have hB_1 := hB.alloc hB.size (.cells #[.string (bs D.data), .slice A1 D.cache.length a1, .int .i64 D.fuse, .bool D.off, .slice A2 D.bad.length a2] 25)
  have r := Blk.new (w.alloc (.cells #[.string (bs D.data), .slice A1 D.cache.length a1, .int .i64 D.fuse, .bool D.off, .slice A2 D.bad.length a2] 25)) 25 #[.string (bs []), .slice none 0 0, .int .i64 0, .bool false, .slice none 0 0]
  simp only [World.size_alloc] at r
  have rk := blk5 r
  have hB_2 := hB_1.alloc hB_1.size (.cells #[.string (bs []), .slice none 0 0, .int .i64 0, .bool false, .slice none 0 0] 25)
  have x_3 := x.alloc (.cells #[.string (bs []), .slice none 0 0, .int .i64 0, .bool false, .slice none 0 0] 25)
  have xk_3 := blk5 x_3
  have y1 := H1.out _ hB_2
  go_enter Tryz.func142, Tryz.ntmps142
  go_wp2_with fail
  go_loopw [6, 11] (fun er u W => ∃ i : Nat, i ≤ l.length ∧ u = .int .i64 i ∧ er = .int .i64 0 ∧ ∃ X : Dk, Hid (Dk.layIn ((rowsFrom at_ l).take i) D = (X, 0)) ∧ RowBox W w.heap.size 25 D ⟨A1, a1⟩ ⟨A2, a2⟩ X ∧ Below w.heap.size w W) (fun _ u _ => l.length - (intOf u).toNat)
  case atStart => exact ⟨0, Nat.zero_le _, rfl, rfl, D, hid rfl, ⟨⟨⟨A1, a1⟩, ⟨A2, a2⟩, x_3, HDW.out _ hB_2, fun g _ h2 => by rcases Nat.lt_or_ge g w.heap.size with h | h; (exact h2 h); (exact HDo.out g h)⟩, r⟩, hB_2⟩
  case round =>
    obtain ⟨i, hi, rfl, rfl, X, hX, ⟨⟨p1, q1, h1, h2, h3⟩, h4⟩, hb⟩ := hrel
    have z1 := blk5 h1
    have z4 := blk5 h4
    have v1 := h1.frozen
    have v4 := h4.frozen
    clear y1
    by_cases hlt : i < l.length
    · obtain ⟨c2, o2, e2, cs⟩ := (HAt.out _ hb).str hlt
      subst e2
      replace cs := cs i hlt
      have y2 := H2.out _ hb
      have hsl := hs _ (List.getElem_mem hlt)
      obtain ⟨⟨E, er⟩, hE⟩ : ∃ X', X.write (at_ + i) l[i] = X' := ⟨_, rfl⟩
      have hZ : i < (rowsFrom at_ l).length := by rw [rowsFrom_length]; exact hlt
      have Hn := hid (show Dk.layIn ((rowsFrom at_ l).take (i + 1)) D = (E, er) by
        rw [List.take_succ_eq_append_getElem hZ, Dk.layIn_snoc _ _ _ (by rw [hX.out]), hX.out, rowsFrom_get l at_ i hlt]; exact hE)
      have hw := fun (W : World) (hb : Below wr.heap.size wr W) => d_write_n X p1 q1 W (h2.below hb) (at_ + i) ⟨by omega, by omega⟩ l[i] hsl
      simp only [hE] at hw
      have Hst := hid (fun (h : er ≠ 0) => show Dk.layIn (rowsFrom at_ l) D = (E, er) by
        have e : rowsFrom at_ l = (rowsFrom at_ l).take (i + 1) ++ (rowsFrom at_ l).drop (i + 1) := (List.take_append_drop _ _).symm
        rw [e, Dk.layIn_stop _ _ _ (by rw [Hn.out]; exact h), Hn.out])
      have wk := i64w (x := at_ + (i : Int)) ⟨by omega, by omega⟩
      have H3 := hid h3
      clear h3 hE hX hZ
      generalize l[i] = s at *
      go_wp2_with fail
      go_at_call 143
      refine (hw _ (Below.refl _ _)).mono ?_
      rintro e W1 ⟨⟨p2, q2, rfl, i2, o2'⟩, hbl⟩
      have g1 : w.heap.size + 1 < wr.heap.size := h4.lt
      have bd7 := h1.below hbl h1.lt
      have br7 := h4.below hbl h4.lt
      have b7 := bt hb hbl
      have kd := blk5 bd7
      have fd := bd7.frozen
      have kr := blk5 br7
      have fr := br7.frozen
      have H3' := hid (fun g (g1 : g ≤ w.heap.size + 1) (g2 : g < w.heap.size → DkOff g D ⟨A1, a1⟩ ⟨A2, a2⟩) => o2' g (by omega) (H3.out g g1 g2))
      have od : DkOff w.heap.size E p2 q2 := H3'.out _ (by omega) (fun h => absurd h (by omega))
      have or_ : DkOff (w.heap.size + 1) E p2 q2 := H3'.out _ (by omega) (fun h => absurd h (by omega))
      clear z1 z4 v1 v4 hw h1 h4 h2 cs y2
      by_cases he : er = 0
      · subst he
        go_wp2_with fail
        go_roundw
        case rel => exact ⟨i + 1, by omega, by go_num, rfl, E, Hn, ⟨⟨p2, q2, blk_set5 bd7 (.string (bs E.data)) (.slice p2.a E.cache.length p2.c) (.int .i64 E.fuse) (.bool E.off) (.slice q2.a E.bad.length q2.c), i2.off5 od (.string (bs E.data)) (.slice p2.a E.cache.length p2.c) (.int .i64 E.fuse) (.bool E.off) (.slice q2.a E.bad.length q2.c), H3'.out⟩, blk_off5 br7 (by omega) (.string (bs E.data)) (.slice p2.a E.cache.length p2.c) (.int .i64 E.fuse) (.bool E.off) (.slice q2.a E.bad.length q2.c)⟩, below_set5 b7 (Nat.le_refl _) (.string (bs E.data)) (.slice p2.a E.cache.length p2.c) (.int .i64 E.fuse) (.bool E.off) (.slice q2.a E.bad.length q2.c)⟩
        case measure => simp [intOf]; omega
      · have Hl := hid (Hst.out he)
        have n1 : (er != 0) = true := by simpa using he
        clear he Hst
        go_wp2_with fail
        have yy := blk5 (blk_set5 (blk_off5 br7 (g := w.heap.size) (by omega) (.string (bs E.data)) (.slice p2.a E.cache.length p2.c) (.int .i64 E.fuse) (.bool E.off) (.slice q2.a E.bad.length q2.c)) (.string (bs E.data)) (.slice p2.a E.cache.length p2.c) (.int .i64 E.fuse) (.bool E.off) (.slice q2.a E.bad.length q2.c))
        refine bodyPost_ret (v := .tuple #[dval E p2 q2, .int .i64 er]) (by simp [results, Tryz.results142, go_sem, yy]) rfl ?_
        exact ⟨⟨p2, q2, by rw [Hl.out], by rw [Hl.out]; exact (i2.off5 od (.string (bs E.data)) (.slice p2.a E.cache.length p2.c) (.int .i64 E.fuse) (.bool E.off) (.slice q2.a E.bad.length q2.c)).off5 or_ (.string (bs E.data)) (.slice p2.a E.cache.length p2.c) (.int .i64 E.fuse) (.bool E.off) (.slice q2.a E.bad.length q2.c), by rw [Hl.out]; exact fun g g1 g2 => H3'.out g (by omega) (fun _ => g2)⟩, below_set5 (below_set5 b7 (Nat.le_refl _) (.string (bs E.data)) (.slice p2.a E.cache.length p2.c) (.int .i64 E.fuse) (.bool E.off) (.slice q2.a E.bad.length q2.c)) (by omega) (.string (bs E.data)) (.slice p2.a E.cache.length p2.c) (.int .i64 E.fuse) (.bool E.off) (.slice q2.a E.bad.length q2.c)⟩
    · obtain rfl : i = l.length := by omega
      have Hl := hid (show Dk.layIn (rowsFrom at_ l) D = (X, 0) by
        have := hX.out
        rwa [List.take_of_length_le (by rw [rowsFrom_length]; exact Nat.le_refl _)] at this)
      clear hX
      go_wp2_with fail
      have z5 := blk5 (blk_set5 h4 (.string (bs X.data)) (.slice p1.a X.cache.length p1.c) (.int .i64 X.fuse) (.bool X.off) (.slice q1.a X.bad.length q1.c))
      refine bodyPost_ret (v := .tuple #[dval X p1 q1, .int .i64 0]) (by simp [results, Tryz.results142, go_sem, z5]) rfl ?_
      exact ⟨⟨p1, q1, by rw [Hl.out], by rw [Hl.out]; exact h2.off5 (h3 _ (Nat.le_refl _) (fun h => absurd h (by omega))) _ _ _ _ _, by rw [Hl.out]; exact fun g g1 g2 => h3 g (by omega) (fun _ => g2)⟩, below_set5 hb (by omega) _ _ _ _ _⟩
set_option maxRecDepth 100000 in
theorem j_laid1 (D : Dk) (L : Pn) (p q p' q' : Pl) (G : Nat) (w : World) (hD : IsDk w D p q) (hL : IsPn w L p' q') (hG : Blk w G 28 #[.slice p'.a L.targets.length p'.c, .slice q'.a L.data.length q'.c]) (hlen : L.targets.length = L.data.length) (hmany : L.targets.length ≤ 1000000) :
    Calls Tryz.prog 144 #[dval D p q, .pointer (some ⟨G, 0, none⟩)] w fun e w' => RetDkN w.heap.size D p q (Pn.lay D L) e w' ∧ Below w.heap.size w w' := by
  have h1 := fun (W : World) (hb : Below w.heap.size w W) => pl_lay D L p q p' q' W (hD.below hb) (hL.below hb) hlen hmany
  have hap : DkOff w.heap.size D p q ∧ DkOff (w.heap.size + 1) D p q := ⟨hD.apart (Nat.le_refl _), hD.apart (by omega)⟩
  have hgl := hG.lt
  generalize Pn.lay D L = X at *
  obtain ⟨X, xe⟩ := X
  clear hD hL hlen
  obtain ⟨A1, a1⟩ := p
  obtain ⟨A2, a2⟩ := q
  have hB := Below.refl w.heap.size w
  have hGk := blk2 hG
  have x := Blk.new w 25 #[.string (bs D.data), .slice A1 D.cache.length a1, .int .i64 D.fuse, .bool D.off, .slice A2 D.bad.length a2]
  have xk := blk5 x
  have hB_1 := hB.alloc hB.size (.cells #[.string (bs D.data), .slice A1 D.cache.length a1, .int .i64 D.fuse, .bool D.off, .slice A2 D.bad.length a2] 25)
  have hG_2 := hG.alloc (.cells #[.string (bs D.data), .slice A1 D.cache.length a1, .int .i64 D.fuse, .bool D.off, .slice A2 D.bad.length a2] 25)
  have hGk_2 := blk2 hG_2
  have r := Blk.new (w.alloc (.cells #[.string (bs D.data), .slice A1 D.cache.length a1, .int .i64 D.fuse, .bool D.off, .slice A2 D.bad.length a2] 25)) 25 #[.string (bs []), .slice none 0 0, .int .i64 0, .bool false, .slice none 0 0]
  simp only [World.size_alloc] at r
  have rk := blk5 r
  have hB_3 := hB_1.alloc hB_1.size (.cells #[.string (bs []), .slice none 0 0, .int .i64 0, .bool false, .slice none 0 0] 25)
  have hG_4 := hG_2.alloc (.cells #[.string (bs []), .slice none 0 0, .int .i64 0, .bool false, .slice none 0 0] 25)
  have hGk_4 := blk2 hG_4
  have x_5 := x.alloc (.cells #[.string (bs []), .slice none 0 0, .int .i64 0, .bool false, .slice none 0 0] 25)
  have xk_5 := blk5 x_5
  have hr := r.lt
  go_enter Tryz.func144, Tryz.ntmps144
  go_wp2_with fail
  go_at_call 145
  refine ((h1 _ hB_3)).mono ?_
  rintro e w1 ⟨⟨p2, q2, rfl, i2, o2⟩, hb1⟩
  replace hB := bt hB_3 hb1
  replace hG := hG_4.below hb1 hG_4.lt
  replace hGk := blk2 hG
  replace x := x_5.below hb1 x_5.lt
  replace xk := blk5 x
  replace r := r.below hb1 r.lt
  replace rk := blk5 r
  clear hB_1 hGk_2 hG_2 hB_3 hGk_4 hG_4 xk_5 x_5
  have fr := r.frozen
  simp only at i2 o2
  go_wp2_with fail
  have or_ : DkOff (w.heap.size + 1) X p2 q2 := o2 _ hr hap.2
  have yy := blk5 (blk_set5 r (.string (bs X.data)) (.slice p2.a X.cache.length p2.c) (.int .i64 X.fuse) (.bool X.off) (.slice q2.a X.bad.length q2.c))
  refine bodyPost_ret (v := .tuple #[dval X p2 q2, .int .i64 xe]) (by simp [results, Tryz.results144, go_sem, yy]) rfl ?_
  exact ⟨⟨p2, q2, rfl, i2.off5 or_ _ _ _ _ _, fun g g1 g2 => o2 g (by omega) g2⟩, below_set5 hB (by omega) _ _ _ _ _⟩
end Go.Proofs.YtplgmlcoeehnfaaGreat
set_option linter.unusedVariables false
namespace Go.Proofs.YtplgmlcoeehnfaaGreat
open Go.RowKit Go.Shelf
attribute [local go_sem] bs_mk bs_append bs_extract bs_size bs_toList bs_get
/-- A step: flushing, sectors that are written, a plan that is laid. -/
inductive Stp where
  | flush
  | rows (G1 G2 : Nat) (k : Int) (l : List (List UInt8))
  | laid (G : Nat) (L : Pn)
def Stp.run : Stp → Dk → Dk × Int
  | .flush, D => D.flush
  | .rows _ _ k l, D => Dk.layIn (rowsFrom k l) D
  | .laid _ L, D => Pn.lay D L
theorem Stp.fit (s : Stp) {D : Dk} (h : D.fit = true) : (s.run D).1.fit = true := by
  cases s with
  | flush => exact Dk.flush_fit h
  | rows G1 G2 k l => exact Dk.layIn_fit h
  | laid G L => exact Dk.layIn_fit h
def runAll : List Stp → Dk → Dk × Int
  | [], D => (D, 0)
  | s :: l, D => if (s.run D).2 ≠ 0 then s.run D else runAll l (s.run D).1
theorem runAll_snoc : ∀ (l : List Stp) (D : Dk) (x : Stp), (runAll l D).2 = 0 → runAll (l ++ [x]) D = x.run (runAll l D).1 := by
  intro l
  induction l with
  | nil =>
    intro D x _
    show (if (x.run D).2 ≠ 0 then x.run D else ((x.run D).1, 0)) = x.run D
    split
    · rfl
    · rename_i h
      have h0 : (x.run D).2 = 0 := by simpa using h
      exact Prod.ext rfl h0.symm
  | cons s l ih =>
    intro D x h
    rw [List.cons_append, runAll, runAll] at *
    split
    · rename_i h1; rw [if_pos h1] at h; exact absurd h h1
    · rename_i h1; rw [if_neg h1] at h; exact ih _ _ h
theorem runAll_stop : ∀ (l r : List Stp) (D : Dk), (runAll l D).2 ≠ 0 → runAll (l ++ r) D = runAll l D := by
  intro l
  induction l with
  | nil => intro r D h; exact absurd rfl h
  | cons s l ih =>
    intro r D h
    rw [List.cons_append, runAll, runAll] at *
    split
    · rfl
    · rename_i h1; rw [if_neg h1] at h; exact ih _ _ h
theorem blk6 {w : World} {g : Nat} {t : TypeId} {a b c d e f : Value} (h : Blk w g t #[a, b, c, d, e, f]) :
    w.cell? ⟨g, 0, none⟩ = some a ∧ w.cell? ⟨g, 1, none⟩ = some b ∧ w.cell? ⟨g, 2, none⟩ = some c ∧ w.cell? ⟨g, 3, none⟩ = some d ∧ w.cell? ⟨g, 4, none⟩ = some e ∧ w.cell? ⟨g, 5, none⟩ = some f :=
  ⟨h.cell 0, h.cell 1, h.cell 2, h.cell 3, h.cell 4, h.cell 5⟩
theorem blk_set6 {w : World} {g : Nat} {t : TypeId} {a b c d e f : Value} (h : Blk w g t #[a, b, c, d, e, f]) (v0 v1 v2 v3 v4 v5 : Value) :
    Blk ((((((w.setCell ⟨g, 0, none⟩ v0).setCell ⟨g, 1, none⟩ v1).setCell ⟨g, 2, none⟩ v2).setCell ⟨g, 3, none⟩ v3).setCell ⟨g, 4, none⟩ v4).setCell ⟨g, 5, none⟩ v5) g t #[v0, v1, v2, v3, v4, v5] := by
  have := (((((h.set 0 v0).set 1 v1).set 2 v2).set 3 v3).set 4 v4).set 5 v5
  simpa using this
theorem isDk_off6 {w : World} {D : Dk} {p q : Pl} (h : IsDk w D p q) {g : Nat} (ho : DkOff g D p q) (v0 v1 v2 v3 v4 v5 : Value) :
    IsDk ((((((w.setCell ⟨g, 0, none⟩ v0).setCell ⟨g, 1, none⟩ v1).setCell ⟨g, 2, none⟩ v2).setCell ⟨g, 3, none⟩ v3).setCell ⟨g, 4, none⟩ v4).setCell ⟨g, 5, none⟩ v5) D p q := by
  have h5 := h.off5 ho v0 v1 v2 v3 v4
  obtain ⟨W, hW⟩ : ∃ W, (((((w.setCell ⟨g, 0, none⟩ v0).setCell ⟨g, 1, none⟩ v1).setCell ⟨g, 2, none⟩ v2).setCell ⟨g, 3, none⟩ v3).setCell ⟨g, 4, none⟩ v4) = W := ⟨_, rfl⟩
  rw [hW] at h5 ⊢
  have := IsDk.off h5 (a := ⟨g, 5, none⟩) ho v5
  exact this
theorem grown_set {w w' : World} {g : Nat} (h : w.grownBy w' (some g)) (o : Nat) (v : Value) : w.grownBy (w'.setCell ⟨g, o, none⟩ v) (some g) :=
  ⟨h.os, h.tape, h.output, by simpa using h.size, fun k hk hne => (Below.heap_setCell w' ⟨g, o, none⟩ v k (fun e => hne (by rw [e]))).trans (h.block k hk hne)⟩
theorem grown_set6 {w w' : World} {g : Nat} (h : w.grownBy w' (some g)) (v0 v1 v2 v3 v4 v5 : Value) :
    w.grownBy ((((((w'.setCell ⟨g, 0, none⟩ v0).setCell ⟨g, 1, none⟩ v1).setCell ⟨g, 2, none⟩ v2).setCell ⟨g, 3, none⟩ v3).setCell ⟨g, 4, none⟩ v4).setCell ⟨g, 5, none⟩ v5) (some g) :=
  grown_set (grown_set (grown_set (grown_set (grown_set (grown_set h 0 v0) 1 v1) 2 v2) 3 v3) 4 v4) 5 v5
theorem grown_then {w w1 w2 : World} {g : Nat} (h : w.grownBy w1 (some g)) (h2 : Below w1.heap.size w1 w2) : w.grownBy w2 (some g) :=
  ⟨h2.os.trans h.os, h2.tape.trans h.tape, h2.output.trans h.output, Nat.le_trans h.size h2.size, fun k hk hne => (h2.block k (Nat.lt_of_lt_of_le hk h.size)).trans (h.block k hk hne)⟩
theorem grown_refl (w : World) (g : Nat) : w.grownBy w (some g) := ⟨rfl, rfl, rfl, Nat.le_refl _, fun _ _ _ => rfl⟩
def Stp.val : Stp → Value
  | .flush => .func (.func 78) #[] #[]
  | .rows G1 G2 _ _ => .func (.func 142) #[] #[.pointer (some ⟨G1, 0, none⟩), .pointer (some ⟨G2, 0, none⟩)]
  | .laid G _ => .func (.func 144) #[] #[.pointer (some ⟨G, 0, none⟩)]
/-- What a step needs in memory. -/
def Stp.ready (w : World) : Stp → Prop
  | .flush => True
  | .rows G1 G2 k l => ∃ A c, Blk w G1 26 #[.slice A l.length c] ∧ Blk w G2 3 #[.int .i64 k] ∧ Cells w A (strCells l) ∧ (0 ≤ k ∧ k ≤ 1000000) ∧ l.length ≤ 1000000 ∧ ∀ s ∈ l, s.length ≤ 9223372036854775807
  | .laid G L => ∃ p q : Pl, Blk w G 28 #[.slice p.a L.targets.length p.c, .slice q.a L.data.length q.c] ∧ IsPn w L p q ∧ L.targets.length = L.data.length ∧ L.targets.length ≤ 1000000
/-- A step that is ready does what it does. -/
theorem flush_ready {w : World} {D : Dk} {p q : Pl} (hD : IsDk w D p q) (hf : D.fit = true) : Calls Tryz.prog 78 #[dval D p q] w fun e w' => RetDkN w.heap.size D p q (Stp.flush.run D) e w' ∧ Below w.heap.size w w' := d_flush_n D p q w hD hf
theorem rows_ready {w : World} {G1 G2 : Nat} {k : Int} {l : List (List UInt8)} (h : Stp.ready w (.rows G1 G2 k l)) {D : Dk} {p q : Pl} (hD : IsDk w D p q) :
    Calls Tryz.prog 142 #[dval D p q, .pointer (some ⟨G1, 0, none⟩), .pointer (some ⟨G2, 0, none⟩)] w fun e w' => RetDkN w.heap.size D p q ((Stp.rows G1 G2 k l).run D) e w' ∧ Below w.heap.size w w' := by
  obtain ⟨A, c, h1, h2, h3, h4, h5, h6⟩ := h
  exact j_rows1 D p q k l A c G1 G2 w hD h1 h2 h3 h4 h5 h6
theorem laid_ready {w : World} {G : Nat} {L : Pn} (h : Stp.ready w (.laid G L)) {D : Dk} {p q : Pl} (hD : IsDk w D p q) :
    Calls Tryz.prog 144 #[dval D p q, .pointer (some ⟨G, 0, none⟩)] w fun e w' => RetDkN w.heap.size D p q ((Stp.laid G L).run D) e w' ∧ Below w.heap.size w w' := by
  obtain ⟨p', q', h1, h2, h3, h4⟩ := h
  exact j_laid1 D L p q p' q' G w hD h2 h1 h3 h4
set_option maxRecDepth 100000 in
set_option maxHeartbeats 2000000 in
theorem j_do (ss : List Stp) (D : Dk) (p q : Pl) (g : Nat) (A : Option Addr) (c : Nat) (w : World) (hG : Blk w g 138 #[.string (bs D.data), .slice p.a D.cache.length p.c, .int .i64 D.fuse, .bool D.off, .slice q.a D.bad.length q.c, .int .i64 0])
    (hD : IsDk w D p q) (hf : D.fit = true) (ho : DkOff g D p q) (hA : Cells w A (ss.map Stp.val)) (hAg : ∀ b off, A = some ⟨b, off, none⟩ → b ≠ g) (hl : ss.length ≤ 1000)
    (hs : ∀ s ∈ ss, ∀ (W : World), w.grownBy W (some g) → Stp.ready W s) :
    Calls Tryz.prog 77 #[.pointer (some ⟨g, 0, none⟩), .slice A ss.length c] w fun e w' => e = .returned (.tuple #[]) ∧ w.grownBy w' (some g) ∧ ∃ p' q', Blk w' g 138 #[.string (bs (runAll ss D).1.data), .slice p'.a (runAll ss D).1.cache.length p'.c, .int .i64 (runAll ss D).1.fuse, .bool (runAll ss D).1.off, .slice q'.a (runAll ss D).1.bad.length q'.c, .int .i64 (runAll ss D).2] ∧ IsDk w' (runAll ss D).1 p' q' ∧ DkOff g (runAll ss D).1 p' q' ∧ ∀ b, b < w.heap.size → DkOff b D p q → DkOff b (runAll ss D).1 p' q' := by
  have Hs := hid hs
  have Ho2 := hid hAg
  clear hs hAg
  obtain ⟨A1, a1⟩ := p
  obtain ⟨A2, a2⟩ := q
  go_enter Tryz.func77, Tryz.ntmps77
  go_wp2_with fail
  go_step3
  go_wp2_with fail
  go_step3
  go_wp2_with fail
  go_loopw [8] (fun u W => ∃ i : Nat, i ≤ ss.length ∧ u = .int .i64 i ∧ ∃ (E : Dk) (p1 q1 : Pl), Hid (runAll (ss.take i) D = (E, 0)) ∧ Hid (E.fit = true) ∧ w.grownBy W (some g) ∧ Blk W g 138 #[.string (bs E.data), .slice p1.a E.cache.length p1.c, .int .i64 E.fuse, .bool E.off, .slice q1.a E.bad.length q1.c, .int .i64 0] ∧ IsDk W E p1 q1 ∧ DkOff g E p1 q1 ∧ Hid (∀ b, b < w.heap.size → DkOff b D ⟨A1, a1⟩ ⟨A2, a2⟩ → DkOff b E p1 q1)) (fun u _ => ss.length - (intOf u).toNat)
  case atStart => exact ⟨0, Nat.zero_le _, rfl, D, ⟨A1, a1⟩, ⟨A2, a2⟩, hid rfl, hid hf, grown_refl _ _, hG, hD, ho, hid (fun _ _ h => h)⟩
  case round =>
    obtain ⟨i, hi, rfl, E, p1, q1, hE, hEf, hgr, hb, hIs, hog, hoff⟩ := hrel
    have kk := blk6 hb
    have kf := hb.frozen
    by_cases hlt : i < ss.length
    · have hcell : ∃ b off, A = some ⟨b, off, none⟩ ∧ wr.cell? ⟨b, off + i, none⟩ = some (ss[i]).val := by
        rcases hA with h | ⟨b, off, e, hc⟩
        · have := congrArg List.length h; rw [List.length_map] at this; simp only [List.length_nil] at this; omega
        · refine ⟨b, off, e, ?_⟩
          have h1 := hc i (ss[i]).val (by simp [hlt])
          have h2 := lt_of_cell h1
          have h3 := Ho2.out b off e
          rw [World.cell?_of_block (w := w) (a := ⟨b, off + i, none⟩) (hgr.block b h2 (by intro e; injection e with e; exact h3 e))]
          exact h1
      obtain ⟨b0, o0, rfl, hcell⟩ := hcell
      have hrdy := Hs.out ss[i] (List.getElem_mem hlt) wr hgr
      have Hnf := hid (Stp.fit ss[i] hEf.out)
      have Hn := hid (show runAll (ss.take (i + 1)) D = (ss[i]).run E by
        rw [List.take_succ_eq_append_getElem hlt, runAll_snoc _ _ _ (by rw [hE.out]), hE.out])
      have Hst := hid (fun (h : ((ss[i]).run E).2 ≠ 0) => show runAll ss D = (ss[i]).run E by
        have e : ss = ss.take (i + 1) ++ ss.drop (i + 1) := (List.take_append_drop _ _).symm
        conv => lhs; rw [e]
        rw [runAll_stop _ _ _ (by rw [Hn.out]; exact h), Hn.out])
      clear hE
      generalize ss[i] = s at *
      have hgl := hb.lt
      cases s with
      | flush =>
        have hcall := (flush_ready hIs hEf.out)
        obtain ⟨⟨X, er⟩, hX⟩ : ∃ X, (Stp.flush).run E = X := ⟨_, rfl⟩
        rw [hX] at hcall Hnf Hn Hst
        simp only [Stp.val] at hcell Hnf Hst
        clear hX hrdy
        go_wp2_with fail
        go_at_call 78
        refine hcall.mono ?_
        rintro e W1 ⟨⟨p2, q2, rfl, i2, o2⟩, hbl⟩
        have hb1 := hb.below hbl hgl
        have kk1 := blk6 hb1
        have kf1 := hb1.frozen
        have og := o2 _ hgl hog
        have gr1 := grown_then hgr hbl
        have gr2 := grown_set6 gr1 (.string (bs X.data)) (.slice p2.a X.cache.length p2.c) (.int .i64 X.fuse) (.bool X.off) (.slice q2.a X.bad.length q2.c) (.int .i64 er)
        have hb2 := blk_set6 hb1 (.string (bs X.data)) (.slice p2.a X.cache.length p2.c) (.int .i64 X.fuse) (.bool X.off) (.slice q2.a X.bad.length q2.c) (.int .i64 er)
        have is2 := isDk_off6 i2 og (.string (bs X.data)) (.slice p2.a X.cache.length p2.c) (.int .i64 X.fuse) (.bool X.off) (.slice q2.a X.bad.length q2.c) (.int .i64 er)
        have Hoff := hid (fun b (h1 : b < w.heap.size) (h2 : DkOff b D ⟨A1, a1⟩ ⟨A2, a2⟩) => o2 b (Nat.lt_of_lt_of_le h1 hgr.size) (hoff.out b h1 h2))
        have kk2 := blk6 hb2
        clear kk kf
        by_cases he : er = 0
        · subst he
          go_wp2_with fail
          go_roundw
          case rel => exact ⟨i + 1, by omega, by go_num, X, p2, q2, Hn, Hnf, gr2, hb2, is2, og, Hoff⟩
          case measure => simp [intOf]; omega
        · have Hl := hid (Hst.out he)
          have n1 : (er != 0) = true := by simpa using he
          clear he Hst
          go_wp2_with fail
          rw [Exit.noGoto_normal]
          refine bodyPost_end (v := .tuple #[]) (by simp [results, Tryz.results77, go_sem]) rfl ?_
          exact ⟨rfl, gr2, p2, q2, by rw [Hl.out]; exact hb2, by rw [Hl.out]; exact is2, by rw [Hl.out]; exact og, by rw [Hl.out]; exact Hoff.out⟩
      | rows G1 G2 k l =>
        have hcall := (rows_ready hrdy hIs)
        obtain ⟨⟨X, er⟩, hX⟩ : ∃ X, (Stp.rows G1 G2 k l).run E = X := ⟨_, rfl⟩
        rw [hX] at hcall Hnf Hn Hst
        simp only [Stp.val] at hcell Hnf Hst
        clear hX hrdy
        go_wp2_with fail
        go_at_call 142
        refine hcall.mono ?_
        rintro e W1 ⟨⟨p2, q2, rfl, i2, o2⟩, hbl⟩
        have hb1 := hb.below hbl hgl
        have kk1 := blk6 hb1
        have kf1 := hb1.frozen
        have og := o2 _ hgl hog
        have gr1 := grown_then hgr hbl
        have gr2 := grown_set6 gr1 (.string (bs X.data)) (.slice p2.a X.cache.length p2.c) (.int .i64 X.fuse) (.bool X.off) (.slice q2.a X.bad.length q2.c) (.int .i64 er)
        have hb2 := blk_set6 hb1 (.string (bs X.data)) (.slice p2.a X.cache.length p2.c) (.int .i64 X.fuse) (.bool X.off) (.slice q2.a X.bad.length q2.c) (.int .i64 er)
        have is2 := isDk_off6 i2 og (.string (bs X.data)) (.slice p2.a X.cache.length p2.c) (.int .i64 X.fuse) (.bool X.off) (.slice q2.a X.bad.length q2.c) (.int .i64 er)
        have Hoff := hid (fun b (h1 : b < w.heap.size) (h2 : DkOff b D ⟨A1, a1⟩ ⟨A2, a2⟩) => o2 b (Nat.lt_of_lt_of_le h1 hgr.size) (hoff.out b h1 h2))
        have kk2 := blk6 hb2
        clear kk kf
        by_cases he : er = 0
        · subst he
          go_wp2_with fail
          go_roundw
          case rel => exact ⟨i + 1, by omega, by go_num, X, p2, q2, Hn, Hnf, gr2, hb2, is2, og, Hoff⟩
          case measure => simp [intOf]; omega
        · have Hl := hid (Hst.out he)
          have n1 : (er != 0) = true := by simpa using he
          clear he Hst
          go_wp2_with fail
          rw [Exit.noGoto_normal]
          refine bodyPost_end (v := .tuple #[]) (by simp [results, Tryz.results77, go_sem]) rfl ?_
          exact ⟨rfl, gr2, p2, q2, by rw [Hl.out]; exact hb2, by rw [Hl.out]; exact is2, by rw [Hl.out]; exact og, by rw [Hl.out]; exact Hoff.out⟩
      | laid G L =>
        have hcall := (laid_ready hrdy hIs)
        obtain ⟨⟨X, er⟩, hX⟩ : ∃ X, (Stp.laid G L).run E = X := ⟨_, rfl⟩
        rw [hX] at hcall Hnf Hn Hst
        simp only [Stp.val] at hcell Hnf Hst
        clear hX hrdy
        go_wp2_with fail
        go_at_call 144
        refine hcall.mono ?_
        rintro e W1 ⟨⟨p2, q2, rfl, i2, o2⟩, hbl⟩
        have hb1 := hb.below hbl hgl
        have kk1 := blk6 hb1
        have kf1 := hb1.frozen
        have og := o2 _ hgl hog
        have gr1 := grown_then hgr hbl
        have gr2 := grown_set6 gr1 (.string (bs X.data)) (.slice p2.a X.cache.length p2.c) (.int .i64 X.fuse) (.bool X.off) (.slice q2.a X.bad.length q2.c) (.int .i64 er)
        have hb2 := blk_set6 hb1 (.string (bs X.data)) (.slice p2.a X.cache.length p2.c) (.int .i64 X.fuse) (.bool X.off) (.slice q2.a X.bad.length q2.c) (.int .i64 er)
        have is2 := isDk_off6 i2 og (.string (bs X.data)) (.slice p2.a X.cache.length p2.c) (.int .i64 X.fuse) (.bool X.off) (.slice q2.a X.bad.length q2.c) (.int .i64 er)
        have Hoff := hid (fun b (h1 : b < w.heap.size) (h2 : DkOff b D ⟨A1, a1⟩ ⟨A2, a2⟩) => o2 b (Nat.lt_of_lt_of_le h1 hgr.size) (hoff.out b h1 h2))
        have kk2 := blk6 hb2
        clear kk kf
        by_cases he : er = 0
        · subst he
          go_wp2_with fail
          go_roundw
          case rel => exact ⟨i + 1, by omega, by go_num, X, p2, q2, Hn, Hnf, gr2, hb2, is2, og, Hoff⟩
          case measure => simp [intOf]; omega
        · have Hl := hid (Hst.out he)
          have n1 : (er != 0) = true := by simpa using he
          clear he Hst
          go_wp2_with fail
          rw [Exit.noGoto_normal]
          refine bodyPost_end (v := .tuple #[]) (by simp [results, Tryz.results77, go_sem]) rfl ?_
          exact ⟨rfl, gr2, p2, q2, by rw [Hl.out]; exact hb2, by rw [Hl.out]; exact is2, by rw [Hl.out]; exact og, by rw [Hl.out]; exact Hoff.out⟩
    · obtain rfl : i = ss.length := by omega
      have Hl := hid (show runAll ss D = (E, 0) by have := hE.out; rwa [List.take_length] at this)
      clear hE
      go_wp2_with fail
      rw [Exit.noGoto_normal]
      refine bodyPost_end (v := .tuple #[]) (by simp [results, Tryz.results77, go_sem]) rfl ?_
      exact ⟨rfl, hgr, p1, q1, by rw [Hl.out]; exact hb, by rw [Hl.out]; exact hIs, by rw [Hl.out]; exact hog, by rw [Hl.out]; exact hoff.out⟩
end Go.Proofs.YtplgmlcoeehnfaaGreat
