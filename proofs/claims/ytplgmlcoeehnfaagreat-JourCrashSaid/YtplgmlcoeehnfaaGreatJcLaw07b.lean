/- Package cofferdamlaw07: the guard, rows of what was found held against each other. -/
import Derived.Test.YtplgmlcoeehnfaaGreatJcLaw07a
import Derived.Test.YtplgmlcoeehnfaaGreatJcJour12
import Derived.Test.YtplgmlcoeehnfaaGreatJcOpens
import Derived.Test.YtplgmlcoeehnfaaGreatJcLaw01a
import Derived.BigQuiet
set_option linter.unusedVariables false
namespace Go.Proofs.YtplgmlcoeehnfaaGreat
open Go.RowKit Go.Shelf
attribute [local go_sem] bs_mk bs_append bs_extract bs_size bs_toList bs_get
/-- A device that is soon gone through, and has a journal's place. -/
def good7 (D : Dk) : Bool := decide (D.data.length ≤ 65536) && (decide (D.cache.length ≤ 300) && (D.fit && decide (112 ≤ D.sz)))
theorem good7_iff {D : Dk} : good7 D = true ↔ D.data.length ≤ 65536 ∧ D.cache.length ≤ 300 ∧ D.fit = true ∧ 112 ≤ D.sz := by simp [good7]
set_option maxRecDepth 100000 in
theorem good07 (D : Dk) (p q : Pl) (w : World) (hD : IsDk0 w D p q) (hbl : D.bad.length ≤ 17592186044416) :
    Calls Tryz.prog 37 #[dval D p q] w fun e w' => e = .returned (.bool (good7 D)) ∧ Below w.heap.size w w' := by
  have hdl := hD.data
  have hcl := Nat.le_trans hD.pc hD.pm
  have hfull := fun (h1 : D.data.length ≤ 65536) (h2 : D.cache.length ≤ 300) => hD.full (by omega) hbl (by omega)
  unfold maxLen at hdl hcl
  clear hD
  obtain ⟨A1, c1⟩ := p
  obtain ⟨A2, c2⟩ := q
  have hB := Below.refl w.heap.size w
  have x := Blk.new w 25 #[.string (bs D.data), .slice A1 D.cache.length c1, .int .i64 D.fuse, .bool D.off, .slice A2 D.bad.length c2]
  have xk := blk5 x
  have hB_1 := hB.alloc hB.size (.cells #[.string (bs D.data), .slice A1 D.cache.length c1, .int .i64 D.fuse, .bool D.off, .slice A2 D.bad.length c2] 25)
  by_cases h1 : D.data.length ≤ 65536
  · by_cases h2 : D.cache.length ≤ 300
    · have hI := hfull h1 h2
      have hf := fun (W : World) (hb : Below w.heap.size w W) => r1_fit D ⟨A1, c1⟩ ⟨A2, c2⟩ W (hI.below hb) (by omega)
      have hs := fun (W : World) => r1_size D ⟨A1, c1⟩ ⟨A2, c2⟩ (by omega) W
      clear hfull
      cases h3 : D.fit with
      | false =>
        have Hw := hid (show good7 D = false by simp [good7, h3])
        rw [h3] at hf
        go_enter Tryz.func37, Tryz.ntmps37
        go_wp2_with fail
        go_at_call 51
        refine ((hf _ hB_1)).mono ?_
        rintro e w1 ⟨rfl, hb1⟩
        replace hB := bt hB_1 hb1
        replace x := x.below hb1 x.lt
        replace xk := blk5 x
        clear hB_1
        go_wp2_with fail
        go_ret
        exact ⟨by rw [Hw.out]; rfl, hB⟩
      | true =>
        rw [h3] at hf
        have Hw := hid (show good7 D = decide (112 ≤ D.sz) by simp [good7, h1, h2, h3])
        by_cases h4 : 112 ≤ D.sz
        · have g4 : (112 : Int) ≤ (D.sz : Int) := by omega
          rw [decide_eq_true h4] at Hw
          go_enter Tryz.func37, Tryz.ntmps37
          go_wp2_with fail
          go_at_call 51
          refine ((hf _ hB_1)).mono ?_
          rintro e w1 ⟨rfl, hb1⟩
          replace hB := bt hB_1 hb1
          replace x := x.below hb1 x.lt
          replace xk := blk5 x
          clear hB_1
          go_wp2_with fail
          go_at_call 52
          refine ((hs _)).mono ?_
          rintro e w2 ⟨rfl, hb2⟩
          replace hB := bt hB hb2
          replace x := x.below hb2 x.lt
          replace xk := blk5 x
          go_wp2_with fail
          go_ret
          exact ⟨by rw [Hw.out]; rfl, hB⟩
        · have g4 : decide ((112 : Int) ≤ (D.sz : Int)) = false := decide_eq_false (by omega)
          rw [decide_eq_false h4] at Hw
          go_enter Tryz.func37, Tryz.ntmps37
          go_wp2_with fail
          go_at_call 51
          refine ((hf _ hB_1)).mono ?_
          rintro e w1 ⟨rfl, hb1⟩
          replace hB := bt hB_1 hb1
          replace x := x.below hb1 x.lt
          replace xk := blk5 x
          clear hB_1
          go_wp2_with fail
          go_at_call 52
          refine ((hs _)).mono ?_
          rintro e w2 ⟨rfl, hb2⟩
          replace hB := bt hB hb2
          replace x := x.below hb2 x.lt
          replace xk := blk5 x
          go_wp2_with fail
          go_ret
          exact ⟨by rw [Hw.out]; rfl, hB⟩
    · have Hw := hid (show good7 D = false by simp [good7, h2])
      clear hfull
      go_enter Tryz.func37, Tryz.ntmps37
      go_wp2_with fail
      go_ret
      exact ⟨by rw [Hw.out]; rfl, hB_1⟩
  · have Hw := hid (show good7 D = false by simp [good7, h1])
    clear hfull
    go_enter Tryz.func37, Tryz.ntmps37
    go_wp2_with fail
    go_ret
    exact ⟨by rw [Hw.out]; rfl, hB_1⟩
end Go.Proofs.YtplgmlcoeehnfaaGreat
