/- The guards that take a geometry, too. -/
import Derived.Test.YtplgmlcoeehnfaaGreatPuPlan6
import Derived.Test.YtplgmlcoeehnfaaGreatPuSuper1
set_option linter.unusedVariables false
namespace Go.Proofs.YtplgmlcoeehnfaaGreat
open Go.RowKit Go.Shelf
attribute [local go_sem] bs_mk bs_append bs_extract bs_size bs_toList bs_get
set_option maxRecDepth 100000 in
theorem good12 (D : Dk) (L : Pn) (p q p' q' : Pl) (g h : Int) (w : World) (hD : IsDk0 w D p q) (hL : IsPn w L p' q') (hbl : D.bad.length ≤ 17592186044416) :
    Calls Tryz.prog 13 #[dval D p q, pval L p' q', gval g h] w fun e w' => e = .returned (.bool (good D L && geomOk g h)) ∧ Below w.heap.size w w' := by
  have hdl := hD.data
  have hcl := Nat.le_trans hD.pc hD.pm
  have hfull := fun (h1 : D.data.length ≤ 65536) (h2 : D.cache.length ≤ 300) => hD.full (by omega) hbl (by omega)
  have hl := fun (W : World) (hb : Below w.heap.size w W) => r5_fit L p' q' W (hL.below hb)
  have hg := fun (W : World) => r4_fit g h W
  unfold maxLen at hdl hcl
  clear hL hD
  obtain ⟨A1, c1⟩ := p
  obtain ⟨A2, c2⟩ := q
  obtain ⟨B1, d1⟩ := p'
  obtain ⟨B2, d2⟩ := q'
  have hB := Below.refl w.heap.size w
  have x := Blk.new w 25 #[.string (bs D.data), .slice A1 D.cache.length c1, .int .i64 D.fuse, .bool D.off, .slice A2 D.bad.length c2]
  have xk := blk5 x
  have hB_1 := hB.alloc hB.size (.cells #[.string (bs D.data), .slice A1 D.cache.length c1, .int .i64 D.fuse, .bool D.off, .slice A2 D.bad.length c2] 25)
  have z := Blk.new (w.alloc (.cells #[.string (bs D.data), .slice A1 D.cache.length c1, .int .i64 D.fuse, .bool D.off, .slice A2 D.bad.length c2] 25)) 28 #[.slice B1 L.targets.length d1, .slice B2 L.data.length d2]
  simp only [World.size_alloc] at z
  have zk := blk2 z
  have hB_2 := hB_1.alloc hB_1.size (.cells #[.slice B1 L.targets.length d1, .slice B2 L.data.length d2] 28)
  have x_3 := x.alloc (.cells #[.slice B1 L.targets.length d1, .slice B2 L.data.length d2] 28)
  have xk_3 := blk5 x_3
  have y := Blk.new ((w.alloc (.cells #[.string (bs D.data), .slice A1 D.cache.length c1, .int .i64 D.fuse, .bool D.off, .slice A2 D.bad.length c2] 25)).alloc (.cells #[.slice B1 L.targets.length d1, .slice B2 L.data.length d2] 28)) 30 #[.int .i64 g, .int .i64 h]
  simp only [World.size_alloc] at y
  have yk := blk2 y
  have hB_4 := hB_2.alloc hB_2.size (.cells #[.int .i64 g, .int .i64 h] 30)
  have x_5 := x_3.alloc (.cells #[.int .i64 g, .int .i64 h] 30)
  have xk_5 := blk5 x_5
  have z_6 := z.alloc (.cells #[.int .i64 g, .int .i64 h] 30)
  have zk_6 := blk2 z_6
  by_cases h1 : D.data.length ≤ 65536
  · by_cases h2 : D.cache.length ≤ 300
    · have hI := hfull h1 h2
      have hf := fun (W : World) (hb : Below w.heap.size w W) => r1_fit D ⟨A1, c1⟩ ⟨A2, c2⟩ W (hI.below hb) (by omega)
      clear hfull
      cases h3 : D.fit with
      | false =>
        have Hw := hid (show (good D L && geomOk g h) = false by simp [good, h3])
        rw [h3] at hf
        go_enter Tryz.func13, Tryz.ntmps13
        go_wp2_with fail
        go_at_call 51
        refine ((hf _ hB_4)).mono ?_
        rintro e w1 ⟨rfl, hb1⟩
        replace hB := bt hB_4 hb1
        replace x := x_5.below hb1 x_5.lt
        replace xk := blk5 x
        replace z := z_6.below hb1 z_6.lt
        replace zk := blk2 z
        replace y := y.below hb1 y.lt
        replace yk := blk2 y
        clear hB_1 hB_2 xk_3 x_3 hB_4 xk_5 x_5 zk_6 z_6
        go_wp2_with fail
        go_ret
        exact ⟨by rw [Hw.out]; rfl, hB⟩
      | true =>
        rw [h3] at hf
        cases h4 : L.fit with
        | false =>
          have Hw := hid (show (good D L && geomOk g h) = false by simp [good, h4])
          rw [h4] at hl
          go_enter Tryz.func13, Tryz.ntmps13
          go_wp2_with fail
          go_at_call 51
          refine ((hf _ hB_4)).mono ?_
          rintro e w1 ⟨rfl, hb1⟩
          replace hB := bt hB_4 hb1
          replace x := x_5.below hb1 x_5.lt
          replace xk := blk5 x
          replace z := z_6.below hb1 z_6.lt
          replace zk := blk2 z
          replace y := y.below hb1 y.lt
          replace yk := blk2 y
          clear hB_1 hB_2 xk_3 x_3 hB_4 xk_5 x_5 zk_6 z_6
          go_wp2_with fail
          go_at_call 18
          refine ((hl _ hB)).mono ?_
          rintro e w2 ⟨rfl, hb2⟩
          replace hB := bt hB hb2
          replace x := x.below hb2 x.lt
          replace xk := blk5 x
          replace z := z.below hb2 z.lt
          replace zk := blk2 z
          replace y := y.below hb2 y.lt
          replace yk := blk2 y
          go_wp2_with fail
          go_ret
          exact ⟨by rw [Hw.out]; rfl, hB⟩
        | true =>
          have Hw := hid (show (good D L && geomOk g h) = geomOk g h by simp [good, h1, h2, h3, h4])
          rw [h4] at hl
          go_enter Tryz.func13, Tryz.ntmps13
          go_wp2_with fail
          go_at_call 51
          refine ((hf _ hB_4)).mono ?_
          rintro e w1 ⟨rfl, hb1⟩
          replace hB := bt hB_4 hb1
          replace x := x_5.below hb1 x_5.lt
          replace xk := blk5 x
          replace z := z_6.below hb1 z_6.lt
          replace zk := blk2 z
          replace y := y.below hb1 y.lt
          replace yk := blk2 y
          clear hB_1 hB_2 xk_3 x_3 hB_4 xk_5 x_5 zk_6 z_6
          go_wp2_with fail
          go_at_call 18
          refine ((hl _ hB)).mono ?_
          rintro e w2 ⟨rfl, hb2⟩
          replace hB := bt hB hb2
          replace x := x.below hb2 x.lt
          replace xk := blk5 x
          replace z := z.below hb2 z.lt
          replace zk := blk2 z
          replace y := y.below hb2 y.lt
          replace yk := blk2 y
          go_wp2_with fail
          go_at_call 54
          refine ((hg _)).mono ?_
          rintro e w3 ⟨rfl, hb3⟩
          replace hB := bt hB hb3
          replace x := x.below hb3 x.lt
          replace xk := blk5 x
          replace z := z.below hb3 z.lt
          replace zk := blk2 z
          replace y := y.below hb3 y.lt
          replace yk := blk2 y
          go_wp2_with fail
          go_ret
          exact ⟨by rw [Hw.out]; rfl, hB⟩
    · have Hw := hid (show (good D L && geomOk g h) = false by simp [good, h2])
      clear hfull
      go_enter Tryz.func13, Tryz.ntmps13
      go_wp2_with fail
      go_ret
      exact ⟨by rw [Hw.out]; rfl, hB_4⟩
  · have Hw := hid (show (good D L && geomOk g h) = false by simp [good, h1])
    clear hfull
    go_enter Tryz.func13, Tryz.ntmps13
    go_wp2_with fail
    go_ret
    exact ⟨by rw [Hw.out]; rfl, hB_4⟩
end Go.Proofs.YtplgmlcoeehnfaaGreat
