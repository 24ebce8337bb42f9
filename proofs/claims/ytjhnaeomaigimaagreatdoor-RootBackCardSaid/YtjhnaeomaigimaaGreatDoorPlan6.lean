/- Package cofferdamlaw05: its guard; a plan by value opened. -/
import Derived.Test.YtjhnaeomaigimaaGreatDoorPlan4
import Derived.Test.YtjhnaeomaigimaaGreatDoorLaw01a
import Derived.Test.YtjhnaeomaigimaaGreatDoorOpens
set_option linter.unusedVariables false
namespace Go.Proofs.YtjhnaeomaigimaaGreatDoor
open Go.RowKit Go.Shelf Go.WideShapes Go.ChangeShapes Go.Deep Go.Joins
attribute [local go_sem] bs_mk bs_append bs_extract bs_size bs_toList bs_get

section
variable {H : Type} {enc : TypeId × Value → H} {P : Program} {w : World} {base : Nat} {spare : Nat → Bool} {held : Bool}
theorem open_plan {t ei es : TypeId} {f0 f1 : Field} {v : Value} {d : DataW H} {pp : List MemPlace} {r : Reach} {b0 : Nat}
    (hs : P.underlying t = some (.struct #[f0, f1])) (hone : oneCellFields P #[f0, f1] = true) (hC : P.cellsOf t = 2)
    (u0 : P.underlying f0.type = some (.slice ei)) (u1 : P.underlying f1.type = some (.slice es)) (k0 : P.underlying ei = some (.int .i64)) (c0 : P.cellsOf ei = 1) (k1 : P.underlying es = some .string) (c1 : P.cellsOf es = 1)
    (hv : Value.okWide P w r b0 t v) (h : DataW.Trod enc P w base spare held t v d pp) : ∃ L p q, v = pval L p q ∧ IsPn w L p q := by
  obtain ⟨v0, v1, y0, y1, n, rfl, _, _, t0, t1⟩ := open_agg2 hs hone hC hv h
  obtain ⟨A, c, l, rfl, hc, hn, hl, hm, hx⟩ := open_ints u0 k0 c0 t0
  obtain ⟨A', c', l', rfl, hc', hn', hl', hm', hx'⟩ := open_strs u1 k1 c1 t1
  exact ⟨⟨l, l'⟩, ⟨A, c⟩, ⟨A', c'⟩, rfl, hc, hc', hn, hn', hl, hl', hm, hm', hx, hx'⟩
end
noncomputable def good (D : Dk) (L : Pn) : Bool := decide (D.data.length ≤ 65536) && (decide (D.cache.length ≤ 300) && (D.fit && L.fit))
theorem good_iff {D : Dk} {L : Pn} : good D L = true ↔ D.data.length ≤ 65536 ∧ D.cache.length ≤ 300 ∧ D.fit = true ∧ L.Fit := by
  simp [good, Pn.fit_iff]
set_option maxRecDepth 100000 in
theorem good10 (D : Dk) (L : Pn) (p q p' q' : Pl) (w : World) (hD : IsDk0 w D p q) (hL : IsPn w L p' q') (hbl : D.bad.length ≤ 17592186044416) :
    Calls Tryz.prog 9 #[dval D p q, pval L p' q'] w fun e w' => e = .returned (.bool (good D L)) ∧ Below w.heap.size w w' := by
  have hdl := hD.data
  have hcl := Nat.le_trans hD.pc hD.pm
  have hfull := fun (h1 : D.data.length ≤ 65536) (h2 : D.cache.length ≤ 300) => hD.full (by omega) hbl (by omega)
  have hl := fun (W : World) (hb : Below w.heap.size w W) => r5_fit L p' q' W (hL.below hb)
  unfold maxLen at hdl hcl
  clear hL hD
  obtain ⟨A1, c1⟩ := p
  obtain ⟨A2, c2⟩ := q
  obtain ⟨B1, d1⟩ := p'
  obtain ⟨B2, d2⟩ := q'
  have hb := below_two w (.cells #[.string (bs D.data), .slice A1 D.cache.length c1, .int .i64 D.fuse, .bool D.off, .slice A2 D.bad.length c2] 25) (.cells #[.slice B1 L.targets.length d1, .slice B2 L.data.length d2] 28)
  have x0 := (Blk.new w 25 #[.string (bs D.data), .slice A1 D.cache.length c1, .int .i64 D.fuse, .bool D.off, .slice A2 D.bad.length c2]).alloc (.cells #[.slice B1 L.targets.length d1, .slice B2 L.data.length d2] 28)
  have z0 := Blk.new (w.alloc (.cells #[.string (bs D.data), .slice A1 D.cache.length c1, .int .i64 D.fuse, .bool D.off, .slice A2 D.bad.length c2] 25)) 28 #[.slice B1 L.targets.length d1, .slice B2 L.data.length d2]
  simp only [World.size_alloc] at z0
  by_cases h1 : D.data.length ≤ 65536
  · by_cases h2 : D.cache.length ≤ 300
    · have hI := hfull h1 h2
      have hf := r1_fit D ⟨A1, c1⟩ ⟨A2, c2⟩ _ (hI.below hb) (by omega)
      clear hfull hI
      cases h3 : D.fit with
      | false =>
        have Hw := hid (show good D L = false by simp [good, h3])
        rw [h3] at hf
        go_enter Tryz.func9, Tryz.ntmps9
        go_wp2_with fail
        go_at_call 41
        refine hf.mono ?_
        rintro e w1 ⟨rfl, hb1⟩
        go_wp2_with fail
        go_ret
        exact ⟨by rw [Hw.out]; rfl, bt hb hb1⟩
      | true =>
        have Hw := hid (show good D L = L.fit by simp [good, h1, h2, h3])
        rw [h3] at hf
        go_enter Tryz.func9, Tryz.ntmps9
        go_wp2_with fail
        go_at_call 41
        refine hf.mono ?_
        rintro e w1 ⟨rfl, hb1⟩
        have k1 := blk2 (z0.below hb1 (by simp))
        have b1 := bt hb hb1
        go_wp2_with fail
        go_at_call 18
        refine (hl _ b1).mono ?_
        rintro e w2 ⟨rfl, hb2⟩
        go_wp2_with fail
        go_ret
        exact ⟨by rw [Hw.out]; rfl, bt b1 hb2⟩
    · have Hw := hid (show good D L = false by simp [good, h2])
      clear hfull
      go_enter Tryz.func9, Tryz.ntmps9
      go_wp2_with fail
      go_ret
      exact ⟨by rw [Hw.out]; rfl, hb⟩
  · have Hw := hid (show good D L = false by simp [good, h1])
    clear hfull
    go_enter Tryz.func9, Tryz.ntmps9
    go_wp2_with fail
    go_ret
    exact ⟨by rw [Hw.out]; rfl, hb⟩
end Go.Proofs.YtjhnaeomaigimaaGreatDoor
