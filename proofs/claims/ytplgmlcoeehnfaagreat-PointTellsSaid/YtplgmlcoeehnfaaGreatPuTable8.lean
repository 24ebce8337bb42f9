/- Package table: a table filled. -/
import Derived.Test.YtplgmlcoeehnfaaGreatPuTable3
import Derived.Test.YtplgmlcoeehnfaaGreatPuRegs
set_option linter.unusedVariables false
namespace Go.Proofs.YtplgmlcoeehnfaaGreat
open Go.RowKit Go.Shelf
attribute [local go_sem] bs_mk bs_append bs_extract bs_size bs_toList bs_get
/-- What is set, a half at a time. -/
def Pn.st2 (L : Pn) (t : Int) (half : Pn → Int → List UInt8 × Int) : Nat → Pn → Prop
  | 0, X => X = L
  | 1, X => (half L 0).2 = 0 ∧ L.set (96 + 2 * t) (half L 0).1 = (X, 0)
  | 2, X => Pn.set2 L t half = (X, 0)
  | _, _ => False
theorem Pn.st2_err {L X : Pn} {t : Int} {half : Pn → Int → List UInt8 × Int} {i : Nat} (hi : i < 2) (h : Pn.st2 L t half i X) (he : (half X i).2 ≠ 0) : Pn.set2 L t half = (L, (half X i).2) := by
  rcases (show i = 0 ∨ i = 1 by omega) with rfl | rfl
  · have h : X = L := h
    subst h
    change (half X 0).2 ≠ 0 at he
    show _ = (X, (half X 0).2)
    rw [Pn.set2, if_pos he]
  · change (half X 1).2 ≠ 0 at he
    show _ = (L, (half X 1).2)
    obtain ⟨h1, h2⟩ : (half L 0).2 = 0 ∧ L.set (96 + 2 * t) (half L 0).1 = (X, 0) := h
    rw [Pn.set2, h2, if_neg (by simp [h1]), if_neg (by simp), if_pos he]
theorem Pn.st2_bad {L X : Pn} {t : Int} {half : Pn → Int → List UInt8 × Int} {i : Nat} (hi : i < 2) (h : Pn.st2 L t half i X) (h0 : (half X i).2 = 0) (he : (X.set (96 + 2 * t + i) (half X i).1).2 ≠ 0) :
    Pn.set2 L t half = (L, (X.set (96 + 2 * t + i) (half X i).1).2) := by
  rcases (show i = 0 ∨ i = 1 by omega) with rfl | rfl
  · have h : X = L := h
    subst h
    change (half X 0).2 = 0 at h0
    have e : (96 + 2 * t + (0 : Nat) : Int) = 96 + 2 * t := by omega
    rw [e] at he ⊢
    change (X.set (96 + 2 * t) (half X 0).1).2 ≠ 0 at he
    show _ = (X, (X.set (96 + 2 * t) (half X 0).1).2)
    rw [Pn.set2, if_neg (by simpa using h0), if_pos he]
  · change (half X 1).2 = 0 at h0
    change (X.set (96 + 2 * t + 1) (half X 1).1).2 ≠ 0 at he
    show _ = (L, (X.set (96 + 2 * t + 1) (half X 1).1).2)
    obtain ⟨h1, h2⟩ : (half L 0).2 = 0 ∧ L.set (96 + 2 * t) (half L 0).1 = (X, 0) := h
    rw [Pn.set2, h2, if_neg (by simp [h1]), if_neg (by simp), if_neg (by simpa using h0), if_pos he]
theorem Pn.st2_next {L X : Pn} {t : Int} {half : Pn → Int → List UInt8 × Int} {i : Nat} (hi : i < 2) (h : Pn.st2 L t half i X) (h0 : (half X i).2 = 0) (h1 : (X.set (96 + 2 * t + i) (half X i).1).2 = 0) :
    Pn.st2 L t half (i + 1) (X.set (96 + 2 * t + i) (half X i).1).1 := by
  rcases (show i = 0 ∨ i = 1 by omega) with rfl | rfl
  · have h : X = L := h
    subst h
    have e : (96 + 2 * t + (0 : Nat) : Int) = 96 + 2 * t := by omega
    rw [e] at h1 ⊢
    exact ⟨h0, Prod.ext rfl h1⟩
  · obtain ⟨g1, g2⟩ : (half L 0).2 = 0 ∧ L.set (96 + 2 * t) (half L 0).1 = (X, 0) := h
    show Pn.set2 L t half = _
    rw [Pn.set2, g2, if_neg (by simp [g1]), if_neg (by simp), if_neg (by simpa using h0), if_neg (by simpa using h1)]; rfl
theorem s_at_ext {V : World} (t : Int) (h0 : -1000000 ≤ t) (h1 : t ≤ 1000000) (e : Ext V) : Calls Tryz.prog 171 #[.int .i64 t] e.world fun x w' => x = .returned (.int .i64 (96 + 2 * t)) ∧ Below e.world.heap.size e.world w' := s_at t h0 h1 e.world

set_option maxRecDepth 100000 in
set_option maxHeartbeats 1000000 in
theorem t_fill_blank (L : Pn) (p q : Pl) (w : World) (hL : IsPn w L p q) (hfl : L.Fit) (t : Int) (ht : 0 ≤ t ∧ t < 256) (half : Pn → Int → List UInt8 × Int) 
    (hh : ∀ (W : World) (hb : Below w.heap.size w W) (X : Pn) (p q : Pl) (hX : IsPn W X p q) (hf : X.Fit) (i : Nat) (hi : i < 2), Calls Tryz.prog 167 #[pval X p q, .int .i64 i] W fun e w' => e = .returned (.tuple #[.string (bs (half X i).1), .int .i64 (half X i).2]) ∧ Below W.heap.size W w')
    (hlen : ∀ (X : Pn) (i : Nat), X.Fit → i < 2 → (half X i).1.length ≤ 64) :
    Calls Tryz.prog 166 #[pval L p q, .int .i64 t, .func (.func 167) #[] #[]] w fun e w' => RetPn w.heap.size L p q (Pn.set2 L t half) e w' ∧ Below w.heap.size w w' := by
  have Hap := hid (fun g (hg : w.heap.size ≤ g) => hL.apart hg)
  have Hz := hid (fun (W : World) (hb : Below w.heap.size w W) => hL.below hb)
  have Hfl := hid hfl
  have Hh := hid hh
  have Hlen := hid hlen
  have t0 : 0 ≤ t := ht.1
  have t1 : t < 256 := ht.2
  clear hh hlen hL hfl ht
  obtain ⟨A1, a1⟩ := p
  obtain ⟨A2, a2⟩ := q
  have hB := Below.refl w.heap.size w
  have x := Blk.new w 28 #[.slice A1 L.targets.length a1, .slice A2 L.data.length a2]
  have xk := blk2 x
  have hB_1 := hB.alloc hB.size (.cells #[.slice A1 L.targets.length a1, .slice A2 L.data.length a2] 28)
  have r := Blk.new (w.alloc (.cells #[.slice A1 L.targets.length a1, .slice A2 L.data.length a2] 28)) 28 #[.slice none 0 0, .slice none 0 0]
  simp only [World.size_alloc] at r
  have rk := blk2 r
  have rkf := r.frozen
  have hB_2 := hB_1.alloc hB_1.size (.cells #[.slice none 0 0, .slice none 0 0] 28)
  have x_3 := x.alloc (.cells #[.slice none 0 0, .slice none 0 0] 28)
  have xk_3 := blk2 x_3
  have y := Blk.new ((w.alloc (.cells #[.slice A1 L.targets.length a1, .slice A2 L.data.length a2] 28)).alloc (.cells #[.slice none 0 0, .slice none 0 0] 28)) 28 #[.slice A1 L.targets.length a1, .slice A2 L.data.length a2]
  simp only [World.size_alloc] at y
  have yk := blk2 y
  have ykf := y.frozen
  have hB_4 := hB_2.alloc hB_2.size (.cells #[.slice A1 L.targets.length a1, .slice A2 L.data.length a2] 28)
  have x_5 := x_3.alloc (.cells #[.slice A1 L.targets.length a1, .slice A2 L.data.length a2] 28)
  have xk_5 := blk2 x_5
  have r_6 := r.alloc (.cells #[.slice A1 L.targets.length a1, .slice A2 L.data.length a2] 28)
  have rk_6 := blk2 r_6
  have rkf_6 := r_6.frozen
  go_enter Tryz.func166, Tryz.ntmps166
  go_wp2_with fail
  go_loopw [13] (fun v W => ∃ i : Nat, i ≤ 2 ∧ v = .int .i64 i ∧ ∃ X pp qq, Hid (Pn.st2 L t half i X) ∧ Hid X.Fit ∧ IsPn W X pp qq ∧ Hid (∀ g, g < w.heap.size + 3 → PnOff g L ⟨A1, a1⟩ ⟨A2, a2⟩ → PnOff g X pp qq) ∧
      Blk W w.heap.size 28 #[.slice A1 L.targets.length a1, .slice A2 L.data.length a2] ∧ Blk W (w.heap.size + 1) 28 #[.slice none 0 0, .slice none 0 0] ∧
      Blk W (w.heap.size + 1 + 1) 28 #[.slice pp.a X.targets.length pp.c, .slice qq.a X.data.length qq.c] ∧ Below w.heap.size w W) (fun v _ => 2 - (intOf v).toNat)
  case atStart => exact ⟨0, by omega, rfl, L, ⟨A1, a1⟩, ⟨A2, a2⟩, hid rfl, Hfl, Hz.out _ hB_4, hid (fun g _ h => h), x_5, r_6, y, hB_4⟩
  case round =>
    obtain ⟨i, hi, rfl, X, ⟨P1, c1⟩, ⟨P2, c2⟩, hst, hXf, hX, hoff, x, r, y, hB⟩ := hrel
    have Hap2 := hid (fun g (hg : w.heap.size ≤ g) (hg' : g < w.heap.size + 3) => hoff.out g hg' (Hap.out g hg))
    by_cases hlt : i < 2
    · have i1 : (i : Int) < 2 := by omega
      have hc := Hh.out wr hB X ⟨P1, c1⟩ ⟨P2, c2⟩ hX hXf.out i hlt
      have hl64 := Hlen.out X i hXf.out hlt
      have Herr := hid (Pn.st2_err (half := half) hlt hst.out)
      have Hbad := hid (Pn.st2_bad (half := half) hlt hst.out)
      have Hnext := hid (Pn.st2_next (half := half) hlt hst.out)
      generalize half X i = S at hc Herr Hbad Hnext hl64
      obtain ⟨s, er⟩ := S
      simp only at hc hl64
      have xk := blk2 x
      have rk := blk2 r
      have yk := blk2 y
      go_wp2_with fail
      go_at_call 167
      refine ((hc)).mono ?_
      rintro e w1 ⟨rfl, hb1⟩
      replace hB := bt hB hb1
      replace hX := hX.below hb1
      replace x := x.below hb1 x.lt
      replace xk := blk2 x
      replace r := r.below hb1 r.lt
      replace rk := blk2 r
      replace y := y.below hb1 y.lt
      replace yk := blk2 y
      have rl : w.heap.size + 1 < w1.heap.size := r.lt
      have yl : w.heap.size + 1 + 1 < w1.heap.size := y.lt
      have rf := r.frozen
      have yf := y.frozen
      by_cases he : er = 0
      case neg =>
        have n1 : (er != 0) = true := by simpa using he
        have Hr := hid (Herr.out he)
        clear he
        go_wp2_with fail
        rw [Hr.out]
        have yy := blk2 (blk_set2 r (.slice A1 L.targets.length a1) (.slice A2 L.data.length a2))
        have b9 := below_set2 hB (g := w.heap.size + 1) (by omega) (.slice A1 L.targets.length a1) (.slice A2 L.data.length a2)
        refine bodyPost_ret (v := .tuple #[pval L ⟨A1, a1⟩ ⟨A2, a2⟩, .int .i64 er]) (by simp [results, Tryz.results166, go_sem, yy]) rfl ?_
        exact ⟨⟨_, _, rfl, Hz.out _ b9, fun _ _ h => h⟩, b9⟩
      subst he
      have Hbad1 := hid (Hbad.out rfl)
      have Hnext1 := hid (Hnext.out rfl)
      clear Hbad Hnext Herr
      have hw1 := i64w (x := 96 + 2 * t + (i : Int)) (by omega)
      have hE := s_at_ext (V := w1) t (by omega) (by omega)
      have K1 := ext2 y
      have K2 := ext2 x
      go_wp2_with fail
      refine wp_region_ext_tail 6 mixed (by kernel_rfl) (fun _ _ _ d _ h => by cases d <;> exact h) ?_
      simp only [List.take_succ_cons, List.take_zero, List.drop_succ_cons, List.drop_zero]
      repeat (go_big_quiet_step (((go_at_call 171; with_reducible exact ext_of (hE _)))))
      refine wpQuiet_nil ?_
      rintro w2 ⟨pq_, hpq_⟩
      have hb2 := pq_.below
      rw [← hpq_] at hb2
      clear hpq_ pq_
      have hs := pl_set X ⟨P1, c1⟩ ⟨P2, c2⟩ w2 (hX.below hb2) (96 + 2 * t + (i : Int)) (by omega) s (by omega) (by have := hXf.out.2.1; omega) hXf.out.1
      have hB2 := bt hB hb2
      have x2 := x.below hb2 x.lt
      have r2 := r.below hb2 r.lt
      have y2 := y.below hb2 y.lt
      have w2l := hb2.size
      clear hE K1 K2 hw1 xk rk yk
      have hYf := Pn.set_fit hXf.out (96 + 2 * t + (i : Int)) s
      generalize X.set (96 + 2 * t + (i : Int)) s = N at hs Hbad1 Hnext1 hYf
      obtain ⟨Y, er2⟩ := N
      simp only at hYf
      go_wp2_with fail
      go_at_call 206
      refine hs.mono ?_
      rintro e w3 ⟨⟨p3, q3, rfl, i3, o3⟩, hb3⟩
      have x3 := x2.below hb3 x2.lt
      have r3 := r2.below hb3 r2.lt
      have y3 := y2.below hb3 y2.lt
      have hB3 := bt hB2 hb3
      have w3l := hb3.size
      have oy := o3 (w.heap.size + 1 + 1) (by omega) (Hap2.out _ (by omega) (by omega))
      have or := o3 (w.heap.size + 1) (by omega) (Hap2.out _ (by omega) (by omega))
      have rf3 := r3.frozen
      have yk3 := blk2 y3
      have yf3 := y3.frozen
      have x4 := blk_off2 x3 (g := w.heap.size + 1 + 1) (by omega) (.slice p3.a Y.targets.length p3.c) (.slice q3.a Y.data.length q3.c)
      have r4 := blk_off2 r3 (g := w.heap.size + 1 + 1) (by omega) (.slice p3.a Y.targets.length p3.c) (.slice q3.a Y.data.length q3.c)
      have y4 := blk_set2 y3 (.slice p3.a Y.targets.length p3.c) (.slice q3.a Y.data.length q3.c)
      have hB4 := below_set2 hB3 (g := w.heap.size + 1 + 1) (by omega) (.slice p3.a Y.targets.length p3.c) (.slice q3.a Y.data.length q3.c)
      have i4 := i3.off2 oy (.slice p3.a Y.targets.length p3.c) (.slice q3.a Y.data.length q3.c)
      have xk4 := blk2 x4
      have rf4 := r4.frozen
      have rk4 := blk2 r4
      by_cases he : er2 = 0
      case neg =>
        have n1 : (er2 != 0) = true := by simpa using he
        have Hr := hid (Hbad1.out he)
        clear he
        go_wp2_with fail
        rw [Hr.out]
        have yy := blk2 (blk_set2 r4 (.slice A1 L.targets.length a1) (.slice A2 L.data.length a2))
        have b9 := below_set2 hB4 (g := w.heap.size + 1) (by omega) (.slice A1 L.targets.length a1) (.slice A2 L.data.length a2)
        refine bodyPost_ret (v := .tuple #[pval L ⟨A1, a1⟩ ⟨A2, a2⟩, .int .i64 er2]) (by simp [results, Tryz.results166, go_sem, yy]) rfl ?_
        exact ⟨⟨_, _, rfl, Hz.out _ b9, fun _ _ h => h⟩, b9⟩
      subst he
      have Hn := hid (Hnext1.out rfl)
      have HYf := hid hYf
      clear Hnext1 Hbad1
      go_wp2_with fail
      go_roundw
      case rel => exact ⟨i + 1, by omega, by go_num, Y, p3, q3, Hn, HYf, i4, hid (fun g hg h => o3 g (by omega) (hoff.out g hg h)), x4, r4, y4, hB4⟩
      case measure => simp [intOf]; omega
    · obtain rfl : i = 2 := by omega
      have Hr := hid (show Pn.set2 L t half = (X, 0) from hst.out)
      have or := Hap2.out (w.heap.size + 1) (by omega) (by omega)
      have yk := blk2 y
      have rk := blk2 r
      have rf := r.frozen
      have rl : w.heap.size + 1 < wr.heap.size := r.lt
      go_wp2_with fail
      rw [Hr.out]
      have yy := blk2 (blk_set2 r (.slice P1 X.targets.length c1) (.slice P2 X.data.length c2))
      have b9 := below_set2 hB (g := w.heap.size + 1) (by omega) (.slice P1 X.targets.length c1) (.slice P2 X.data.length c2)
      refine bodyPost_ret (v := .tuple #[pval X ⟨P1, c1⟩ ⟨P2, c2⟩, .int .i64 0]) (by simp [results, Tryz.results166, go_sem, yy]) rfl ?_
      exact ⟨⟨_, _, rfl, hX.off2 or _ _, fun g hg h => hoff.out g (by omega) h⟩, b9⟩
set_option maxRecDepth 100000 in
set_option maxHeartbeats 1000000 in
theorem t_fill_copy (L : Pn) (p q : Pl) (w : World) (hL : IsPn w L p q) (hfl : L.Fit) (t : Int) (ht : 0 ≤ t ∧ t < 256) (half : Pn → Int → List UInt8 × Int) (g1 g2 : Nat)
    (hh : ∀ (W : World) (hb : Below w.heap.size w W) (X : Pn) (p q : Pl) (hX : IsPn W X p q) (hf : X.Fit) (i : Nat) (hi : i < 2), Calls Tryz.prog 170 #[pval X p q, .int .i64 i, .pointer (some ⟨g1, 0, none⟩), .pointer (some ⟨g2, 0, none⟩)] W fun e w' => e = .returned (.tuple #[.string (bs (half X i).1), .int .i64 (half X i).2]) ∧ Below W.heap.size W w')
    (hlen : ∀ (X : Pn) (i : Nat), X.Fit → i < 2 → (half X i).1.length ≤ 64) :
    Calls Tryz.prog 166 #[pval L p q, .int .i64 t, .func (.func 170) #[] #[.pointer (some ⟨g1, 0, none⟩), .pointer (some ⟨g2, 0, none⟩)]] w fun e w' => RetPn w.heap.size L p q (Pn.set2 L t half) e w' ∧ Below w.heap.size w w' := by
  have Hap := hid (fun g (hg : w.heap.size ≤ g) => hL.apart hg)
  have Hz := hid (fun (W : World) (hb : Below w.heap.size w W) => hL.below hb)
  have Hfl := hid hfl
  have Hh := hid hh
  have Hlen := hid hlen
  have t0 : 0 ≤ t := ht.1
  have t1 : t < 256 := ht.2
  clear hh hlen hL hfl ht
  obtain ⟨A1, a1⟩ := p
  obtain ⟨A2, a2⟩ := q
  have hB := Below.refl w.heap.size w
  have x := Blk.new w 28 #[.slice A1 L.targets.length a1, .slice A2 L.data.length a2]
  have xk := blk2 x
  have hB_1 := hB.alloc hB.size (.cells #[.slice A1 L.targets.length a1, .slice A2 L.data.length a2] 28)
  have r := Blk.new (w.alloc (.cells #[.slice A1 L.targets.length a1, .slice A2 L.data.length a2] 28)) 28 #[.slice none 0 0, .slice none 0 0]
  simp only [World.size_alloc] at r
  have rk := blk2 r
  have rkf := r.frozen
  have hB_2 := hB_1.alloc hB_1.size (.cells #[.slice none 0 0, .slice none 0 0] 28)
  have x_3 := x.alloc (.cells #[.slice none 0 0, .slice none 0 0] 28)
  have xk_3 := blk2 x_3
  have y := Blk.new ((w.alloc (.cells #[.slice A1 L.targets.length a1, .slice A2 L.data.length a2] 28)).alloc (.cells #[.slice none 0 0, .slice none 0 0] 28)) 28 #[.slice A1 L.targets.length a1, .slice A2 L.data.length a2]
  simp only [World.size_alloc] at y
  have yk := blk2 y
  have ykf := y.frozen
  have hB_4 := hB_2.alloc hB_2.size (.cells #[.slice A1 L.targets.length a1, .slice A2 L.data.length a2] 28)
  have x_5 := x_3.alloc (.cells #[.slice A1 L.targets.length a1, .slice A2 L.data.length a2] 28)
  have xk_5 := blk2 x_5
  have r_6 := r.alloc (.cells #[.slice A1 L.targets.length a1, .slice A2 L.data.length a2] 28)
  have rk_6 := blk2 r_6
  have rkf_6 := r_6.frozen
  go_enter Tryz.func166, Tryz.ntmps166
  go_wp2_with fail
  go_loopw [13] (fun v W => ∃ i : Nat, i ≤ 2 ∧ v = .int .i64 i ∧ ∃ X pp qq, Hid (Pn.st2 L t half i X) ∧ Hid X.Fit ∧ IsPn W X pp qq ∧ Hid (∀ g, g < w.heap.size + 3 → PnOff g L ⟨A1, a1⟩ ⟨A2, a2⟩ → PnOff g X pp qq) ∧
      Blk W w.heap.size 28 #[.slice A1 L.targets.length a1, .slice A2 L.data.length a2] ∧ Blk W (w.heap.size + 1) 28 #[.slice none 0 0, .slice none 0 0] ∧
      Blk W (w.heap.size + 1 + 1) 28 #[.slice pp.a X.targets.length pp.c, .slice qq.a X.data.length qq.c] ∧ Below w.heap.size w W) (fun v _ => 2 - (intOf v).toNat)
  case atStart => exact ⟨0, by omega, rfl, L, ⟨A1, a1⟩, ⟨A2, a2⟩, hid rfl, Hfl, Hz.out _ hB_4, hid (fun g _ h => h), x_5, r_6, y, hB_4⟩
  case round =>
    obtain ⟨i, hi, rfl, X, ⟨P1, c1⟩, ⟨P2, c2⟩, hst, hXf, hX, hoff, x, r, y, hB⟩ := hrel
    have Hap2 := hid (fun g (hg : w.heap.size ≤ g) (hg' : g < w.heap.size + 3) => hoff.out g hg' (Hap.out g hg))
    by_cases hlt : i < 2
    · have i1 : (i : Int) < 2 := by omega
      have hc := Hh.out wr hB X ⟨P1, c1⟩ ⟨P2, c2⟩ hX hXf.out i hlt
      have hl64 := Hlen.out X i hXf.out hlt
      have Herr := hid (Pn.st2_err (half := half) hlt hst.out)
      have Hbad := hid (Pn.st2_bad (half := half) hlt hst.out)
      have Hnext := hid (Pn.st2_next (half := half) hlt hst.out)
      generalize half X i = S at hc Herr Hbad Hnext hl64
      obtain ⟨s, er⟩ := S
      simp only at hc hl64
      have xk := blk2 x
      have rk := blk2 r
      have yk := blk2 y
      go_wp2_with fail
      go_at_call 170
      refine ((hc)).mono ?_
      rintro e w1 ⟨rfl, hb1⟩
      replace hB := bt hB hb1
      replace hX := hX.below hb1
      replace x := x.below hb1 x.lt
      replace xk := blk2 x
      replace r := r.below hb1 r.lt
      replace rk := blk2 r
      replace y := y.below hb1 y.lt
      replace yk := blk2 y
      have rl : w.heap.size + 1 < w1.heap.size := r.lt
      have yl : w.heap.size + 1 + 1 < w1.heap.size := y.lt
      have rf := r.frozen
      have yf := y.frozen
      by_cases he : er = 0
      case neg =>
        have n1 : (er != 0) = true := by simpa using he
        have Hr := hid (Herr.out he)
        clear he
        go_wp2_with fail
        rw [Hr.out]
        have yy := blk2 (blk_set2 r (.slice A1 L.targets.length a1) (.slice A2 L.data.length a2))
        have b9 := below_set2 hB (g := w.heap.size + 1) (by omega) (.slice A1 L.targets.length a1) (.slice A2 L.data.length a2)
        refine bodyPost_ret (v := .tuple #[pval L ⟨A1, a1⟩ ⟨A2, a2⟩, .int .i64 er]) (by simp [results, Tryz.results166, go_sem, yy]) rfl ?_
        exact ⟨⟨_, _, rfl, Hz.out _ b9, fun _ _ h => h⟩, b9⟩
      subst he
      have Hbad1 := hid (Hbad.out rfl)
      have Hnext1 := hid (Hnext.out rfl)
      clear Hbad Hnext Herr
      have hw1 := i64w (x := 96 + 2 * t + (i : Int)) (by omega)
      have hE := s_at_ext (V := w1) t (by omega) (by omega)
      have K1 := ext2 y
      have K2 := ext2 x
      go_wp2_with fail
      refine wp_region_ext_tail 6 mixed (by kernel_rfl) (fun _ _ _ d _ h => by cases d <;> exact h) ?_
      simp only [List.take_succ_cons, List.take_zero, List.drop_succ_cons, List.drop_zero]
      repeat (go_big_quiet_step (((go_at_call 171; with_reducible exact ext_of (hE _)))))
      refine wpQuiet_nil ?_
      rintro w2 ⟨pq_, hpq_⟩
      have hb2 := pq_.below
      rw [← hpq_] at hb2
      clear hpq_ pq_
      have hs := pl_set X ⟨P1, c1⟩ ⟨P2, c2⟩ w2 (hX.below hb2) (96 + 2 * t + (i : Int)) (by omega) s (by omega) (by have := hXf.out.2.1; omega) hXf.out.1
      have hB2 := bt hB hb2
      have x2 := x.below hb2 x.lt
      have r2 := r.below hb2 r.lt
      have y2 := y.below hb2 y.lt
      have w2l := hb2.size
      clear hE K1 K2 hw1 xk rk yk
      have hYf := Pn.set_fit hXf.out (96 + 2 * t + (i : Int)) s
      generalize X.set (96 + 2 * t + (i : Int)) s = N at hs Hbad1 Hnext1 hYf
      obtain ⟨Y, er2⟩ := N
      simp only at hYf
      go_wp2_with fail
      go_at_call 206
      refine hs.mono ?_
      rintro e w3 ⟨⟨p3, q3, rfl, i3, o3⟩, hb3⟩
      have x3 := x2.below hb3 x2.lt
      have r3 := r2.below hb3 r2.lt
      have y3 := y2.below hb3 y2.lt
      have hB3 := bt hB2 hb3
      have w3l := hb3.size
      have oy := o3 (w.heap.size + 1 + 1) (by omega) (Hap2.out _ (by omega) (by omega))
      have or := o3 (w.heap.size + 1) (by omega) (Hap2.out _ (by omega) (by omega))
      have rf3 := r3.frozen
      have yk3 := blk2 y3
      have yf3 := y3.frozen
      have x4 := blk_off2 x3 (g := w.heap.size + 1 + 1) (by omega) (.slice p3.a Y.targets.length p3.c) (.slice q3.a Y.data.length q3.c)
      have r4 := blk_off2 r3 (g := w.heap.size + 1 + 1) (by omega) (.slice p3.a Y.targets.length p3.c) (.slice q3.a Y.data.length q3.c)
      have y4 := blk_set2 y3 (.slice p3.a Y.targets.length p3.c) (.slice q3.a Y.data.length q3.c)
      have hB4 := below_set2 hB3 (g := w.heap.size + 1 + 1) (by omega) (.slice p3.a Y.targets.length p3.c) (.slice q3.a Y.data.length q3.c)
      have i4 := i3.off2 oy (.slice p3.a Y.targets.length p3.c) (.slice q3.a Y.data.length q3.c)
      have xk4 := blk2 x4
      have rf4 := r4.frozen
      have rk4 := blk2 r4
      by_cases he : er2 = 0
      case neg =>
        have n1 : (er2 != 0) = true := by simpa using he
        have Hr := hid (Hbad1.out he)
        clear he
        go_wp2_with fail
        rw [Hr.out]
        have yy := blk2 (blk_set2 r4 (.slice A1 L.targets.length a1) (.slice A2 L.data.length a2))
        have b9 := below_set2 hB4 (g := w.heap.size + 1) (by omega) (.slice A1 L.targets.length a1) (.slice A2 L.data.length a2)
        refine bodyPost_ret (v := .tuple #[pval L ⟨A1, a1⟩ ⟨A2, a2⟩, .int .i64 er2]) (by simp [results, Tryz.results166, go_sem, yy]) rfl ?_
        exact ⟨⟨_, _, rfl, Hz.out _ b9, fun _ _ h => h⟩, b9⟩
      subst he
      have Hn := hid (Hnext1.out rfl)
      have HYf := hid hYf
      clear Hnext1 Hbad1
      go_wp2_with fail
      go_roundw
      case rel => exact ⟨i + 1, by omega, by go_num, Y, p3, q3, Hn, HYf, i4, hid (fun g hg h => o3 g (by omega) (hoff.out g hg h)), x4, r4, y4, hB4⟩
      case measure => simp [intOf]; omega
    · obtain rfl : i = 2 := by omega
      have Hr := hid (show Pn.set2 L t half = (X, 0) from hst.out)
      have or := Hap2.out (w.heap.size + 1) (by omega) (by omega)
      have yk := blk2 y
      have rk := blk2 r
      have rf := r.frozen
      have rl : w.heap.size + 1 < wr.heap.size := r.lt
      go_wp2_with fail
      rw [Hr.out]
      have yy := blk2 (blk_set2 r (.slice P1 X.targets.length c1) (.slice P2 X.data.length c2))
      have b9 := below_set2 hB (g := w.heap.size + 1) (by omega) (.slice P1 X.targets.length c1) (.slice P2 X.data.length c2)
      refine bodyPost_ret (v := .tuple #[pval X ⟨P1, c1⟩ ⟨P2, c2⟩, .int .i64 0]) (by simp [results, Tryz.results166, go_sem, yy]) rfl ?_
      exact ⟨⟨_, _, rfl, hX.off2 or _ _, fun g hg h => hoff.out g (by omega) h⟩, b9⟩
end Go.Proofs.YtplgmlcoeehnfaaGreat
