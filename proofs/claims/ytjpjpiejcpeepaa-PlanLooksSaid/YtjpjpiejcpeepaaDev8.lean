/- Package dev, function by function: which devices can be. -/
import Derived.Test.YtjpjpiejcpeepaaDev7
set_option linter.unusedVariables false
namespace Go.Proofs.Ytjpjpiejcpeepaa
open Go.RowKit Go.Shelf
attribute [local go_sem] bs_mk bs_append bs_extract bs_size bs_toList bs_get

namespace Dk
theorem fit_no_head {D : Dk} (h : D.sz < 1 ∨ 1024 < D.sz ∨ D.data.length % 64 ≠ 0 ∨ 4096 < D.cache.length) : D.fit = false := by
  rw [← Bool.not_eq_true]
  intro hf
  have := hf
  simp only [fit, Bool.and_eq_true, decide_eq_true_eq] at this
  obtain ⟨h1, h2, h3, h4, _⟩ := this
  omega
/-- The first i refused sectors are there, each greater than the one ahead. -/
def BadOk (D : Dk) (i : Nat) : Prop := D.cache.all D.putOk = true ∧ ∀ j (hj : j < D.bad.length), j < i → D.there D.bad[j] = true ∧ ∀ h0 : 0 < j, D.bad[j - 1] < D.bad[j]
theorem badOk_end {D : Dk} (h1 : 1 ≤ D.sz) (h2 : D.sz ≤ 1024) (h3 : D.data.length % 64 = 0) (h4 : D.cache.length ≤ 4096) {b : Bool} {i : Nat} (hi : D.bad.length ≤ i) (hb : b = false ↔ D.BadOk i) : D.fit = !b := by
  cases b with
  | false =>
    obtain ⟨h5, h6⟩ := hb.1 rfl
    refine fit_yes h1 h2 h3 h4 (fun i hi => List.all_eq_true.1 h5 _ (List.getElem_mem hi)) (fun i h => (h6 i h (by omega)).1) (fun i h h0 => (h6 i h (by omega)).2 h0)
  | true =>
    show D.fit = false
    rw [← Bool.not_eq_true]
    intro hf
    have hp := fit_parts hf
    have : D.BadOk i := by
      refine ⟨?_, fun j hj _ => ⟨?_, fun h0 => ?_⟩⟩
      · have := hf; simp only [fit, Bool.and_eq_true] at this; exact this.2.2.2.2.1
      · have := hp.2.2.2.2.2.1 j hj; simp [there, this]
      · have := (incr_at _).1 hp.2.2.2.2.2.2 (j - 1) (by omega)
        simpa only [show j - 1 + 1 = j by omega] using this
    exact absurd (hb.2 this) (by simp)
theorem badOk_next {D : Dk} {i : Nat} (hi : i < D.bad.length) {b c : Bool} (hb : b = false ↔ D.BadOk i) (hc : c = false ↔ (D.there D.bad[i] = true ∧ ∀ h0 : 0 < i, D.bad[i - 1] < D.bad[i])) : (b || c) = false ↔ D.BadOk (i + 1) := by
  rw [Bool.or_eq_false_iff, hb, hc]
  constructor
  · rintro ⟨⟨h1, h2⟩, h3⟩
    refine ⟨h1, fun j hj hji => ?_⟩
    rcases Nat.lt_or_ge j i with h | h
    · exact h2 j hj h
    · obtain rfl : j = i := by omega
      exact h3
  · rintro ⟨h1, h2⟩
    exact ⟨⟨h1, fun j hj hji => h2 j hj (by omega)⟩, h2 i hi (by omega)⟩
theorem badOk_stays {D : Dk} {i : Nat} (h : true = false ↔ D.BadOk i) : true = false ↔ D.BadOk (i + 1) :=
  ⟨fun e => (by cases e), fun ⟨h1, h2⟩ => h.2 ⟨h1, fun j hj hji => h2 j hj (by omega)⟩⟩
end Dk
set_option maxRecDepth 100000 in
theorem d_fit_head (D : Dk) (p q : Pl) (w : World) (hD : IsDk w D p q) (h : D.sz < 1 ∨ 1024 < D.sz ∨ D.data.length % 64 ≠ 0 ∨ 4096 < D.cache.length) :
    Calls Try.prog 33 #[dval D p q] w fun e w' => e = .returned (.bool D.fit) ∧ Below w.heap.size w w' := by
  have Hf := hid (Dk.fit_no_head h)
  have hs := d_size D p q hD.data
  have hdl := hD.data
  have hcl := hD.cl
  have hsz : D.sz = D.data.length / 64 := rfl
  obtain ⟨A1, c1⟩ := p
  obtain ⟨A2, c2⟩ := q
  have x0 := Blk.new w 25 #[.string (bs D.data), .slice A1 D.cache.length c1, .int .i64 D.fuse, .bool D.off, .slice A2 D.bad.length c2]
  have b0 := (Below.refl w.heap.size w).alloc (Nat.le_refl _) (.cells #[.string (bs D.data), .slice A1 D.cache.length c1, .int .i64 D.fuse, .bool D.off, .slice A2 D.bad.length c2] 25)
  by_cases h1 : D.data = []
  · have e1 : (D.data == []) = true := by simp [h1]
    clear h1 h hsz
    go_enter Try.func33, Try.ntmps33
    go_wp2_with fail
    go_ret
    exact ⟨by rw [Hf.out]; rfl, b0⟩
  · have e1 : (D.data == []) = false := by simpa using h1
    have hl : 0 < D.data.length := List.length_pos_iff.2 h1
    clear h1
    have h' : 1024 < D.sz ∨ (D.sz ≤ 1024 ∧ 0 < D.data.length % 64) ∨ (D.sz ≤ 1024 ∧ D.data.length % 64 = 0 ∧ 4096 < D.cache.length) := by omega
    clear h hsz
    rcases h' with h2 | ⟨h2, h3⟩ | ⟨h2, h3, h4⟩
    · go_enter Try.func33, Try.ntmps33
      go_wp2_with fail
      go_at_call 49
      refine (hs _).mono ?_
      rintro e w1 ⟨rfl, hb1⟩
      have k1 := blk5 (x0.below hb1 x0.lt)
      go_wp2_with fail
      go_ret
      exact ⟨by rw [Hf.out]; rfl, bt b0 hb1⟩
    · go_enter Try.func33, Try.ntmps33
      go_wp2_with fail
      go_at_call 49
      refine (hs _).mono ?_
      rintro e w1 ⟨rfl, hb1⟩
      have k1 := blk5 (x0.below hb1 x0.lt)
      have m1 : (0 : Int) < (D.data.length : Int) % 64 := by omega
      go_wp2_with fail
      go_ret
      exact ⟨by rw [Hf.out]; rfl, bt b0 hb1⟩
    · go_enter Try.func33, Try.ntmps33
      go_wp2_with fail
      go_at_call 49
      refine (hs _).mono ?_
      rintro e w1 ⟨rfl, hb1⟩
      have k1 := blk5 (x0.below hb1 x0.lt)
      have m1 : ¬ (0 : Int) < (D.data.length : Int) % 64 := by omega
      go_wp2_with fail
      go_ret
      exact ⟨by rw [Hf.out]; rfl, bt b0 hb1⟩
set_option maxRecDepth 100000 in
set_option maxHeartbeats 1000000 in
theorem d_fit_rest (D : Dk) (p q : Pl) (w : World) (hD : IsDk w D p q) (h1 : 1 ≤ D.sz) (h2 : D.sz ≤ 1024) (h3 : D.data.length % 64 = 0) (h4 : D.cache.length ≤ 4096) :
    Calls Try.prog 33 #[dval D p q] w fun e w' => e = .returned (.bool D.fit) ∧ Below w.heap.size w w' := by
  have Hend := hid (fun (b : Bool) (i : Nat) (hi : D.bad.length ≤ i) (hb : b = false ↔ D.BadOk i) => Dk.badOk_end h1 h2 h3 h4 hi hb)
  have hs := d_size D p q hD.data
  have ho := d_out D p q hD.data
  have hdl := hD.data
  have hcl := hD.cl
  have hbl := hD.bl
  have hcf := fun (W : World) (hb : Below w.heap.size w W) => d_containsFunc D p q W (hD.below hb)
  have hl : 0 < D.data.length := by unfold Dk.sz at h1; omega
  have e1 : (D.data == []) = false := by simp; intro e; rw [e] at hl; simp at hl
  have m1 : ¬ (0 : Int) < (D.data.length : Int) % 64 := by omega
  have hbad := fun (W : World) (hb : Below w.heap.size w W) => hD.bad.below hb
  obtain ⟨A1, c1⟩ := p
  obtain ⟨A2, c2⟩ := q
  simp only at hbad
  have x0 := Blk.new w 25 #[.string (bs D.data), .slice A1 D.cache.length c1, .int .i64 D.fuse, .bool D.off, .slice A2 D.bad.length c2]
  have b0 := (Below.refl w.heap.size w).alloc (Nat.le_refl _) (.cells #[.string (bs D.data), .slice A1 D.cache.length c1, .int .i64 D.fuse, .bool D.off, .slice A2 D.bad.length c2] 25)
  clear hD h3 hl
  go_enter Try.func33, Try.ntmps33
  go_wp2_with fail
  go_at_call 49
  refine (hs _).mono ?_
  rintro e w1 ⟨rfl, hb1⟩
  have x1 := x0.below hb1 x0.lt
  have k1 := blk5 x1
  have b1 := bt b0 hb1
  clear x0 b0 hb1 hs
  go_wp2_with fail
  go_at_call 69
  refine (hcf _ b1 _ x1).mono ?_
  rintro e w2 ⟨rfl, hb2⟩
  have x2 := x1.below hb2 x1.lt
  have k2 := blk5 x2
  have b2 := bt b1 hb2
  clear k1 x1 b1 hb2 hcf e1 m1
  go_wp2_with fail
  go_loopw [3, 34] (fun y x W => ∃ i : Nat, ∃ b : Bool, i ≤ D.bad.length ∧ y = .bool b ∧ x = .int .i64 i ∧ Hid (b = false ↔ D.BadOk i) ∧ Below w2.heap.size w2 W) (fun _ x _ => D.bad.length - (intOf x).toNat)
  case atStart => exact ⟨0, _, Nat.zero_le _, rfl, rfl, hid (by simp [Dk.BadOk]), Below.refl _ _⟩
  case round =>
    obtain ⟨i, b, hi, rfl, rfl, hok, hb⟩ := hrel
    have x3 := x2.below hb x2.lt
    have k3 := blk5 x3
    have b3 := bt b2 hb
    clear k2
    by_cases hlt : i < D.bad.length
    · obtain ⟨pb, po, hpa, hcell⟩ := (hbad _ b3).int hlt
      subst hpa
      have x0 := hcell i hlt
      have Hn := fun (c : Bool) (hc : c = false ↔ (D.there D.bad[i] = true ∧ ∀ h0 : 0 < i, D.bad[i - 1] < D.bad[i])) => hid (Dk.badOk_next hlt hok.out hc)
      cases b with
      | true =>
        have Hx := hid (Dk.badOk_stays hok.out)
        clear hcell
        go_wp2_with fail
        go_roundw
        case rel => exact ⟨i + 1, true, by omega, rfl, by go_num, hid Hx.out, hb⟩
        case measure => simp [intOf]; omega
      | false =>
        cases ht : D.there D.bad[i] with
        | false =>
          have Hx := Hn true (by simp [ht])
          have hoo := ho D.bad[i]
          rw [ht] at hoo
          clear hcell ht Hn
          go_wp2_with fail
          go_at_call 59
          refine (hoo _).mono ?_
          rintro e w4 ⟨rfl, hb4⟩
          have k4 := blk5 (x3.below hb4 x3.lt)
          go_wp2_with fail
          go_roundw
          case rel => exact ⟨i + 1, true, by omega, rfl, by go_num, hid Hx.out, bt hb hb4⟩
          case measure => simp [intOf]; omega
        | true =>
          have hoo := ho D.bad[i]
          rw [ht] at hoo
          by_cases h0 : 0 < i
          · have y0 := hcell (i - 1) (by omega)
            have t1 : ((i : Int) - 1).toNat = i - 1 := by omega
            by_cases hle : D.bad[i] ≤ D.bad[i - 1]
            · have Hx := Hn true (by simp [ht]; exact ⟨h0, hle⟩)
              clear hcell ht Hn
              go_wp2_with fail
              go_at_call 59
              refine (hoo _).mono ?_
              rintro e w4 ⟨rfl, hb4⟩
              have k4 := blk5 (x3.below hb4 x3.lt)
              have y4 := cell_below hb4 y0
              go_wp2_with fail
              go_roundw
              case rel => exact ⟨i + 1, true, by omega, rfl, by go_num, hid Hx.out, bt hb hb4⟩
              case measure => simp [intOf]; omega
            · have Hx := Hn false (by simp [ht]; intro _; omega)
              clear hcell ht Hn
              go_wp2_with fail
              go_at_call 59
              refine (hoo _).mono ?_
              rintro e w4 ⟨rfl, hb4⟩
              have k4 := blk5 (x3.below hb4 x3.lt)
              have y4 := cell_below hb4 y0
              go_wp2_with fail
              go_roundw
              case rel => exact ⟨i + 1, false, by omega, by simp; omega, by go_num, hid Hx.out, bt hb hb4⟩
              case measure => simp [intOf]; omega
          · have Hx := Hn false (by simp [ht]; intro h; omega)
            clear hcell ht Hn
            go_wp2_with fail
            go_at_call 59
            refine (hoo _).mono ?_
            rintro e w4 ⟨rfl, hb4⟩
            have k4 := blk5 (x3.below hb4 x3.lt)
            go_wp2_with fail
            go_roundw
            case rel => exact ⟨i + 1, false, by omega, rfl, by go_num, hid Hx.out, bt hb hb4⟩
            case measure => simp [intOf]; omega
    · have He := hid (Hend.out b i (by omega) hok.out)
      go_wp2_with fail
      go_ret
      exact ⟨by rw [He.out]; rfl, b3⟩
theorem d_fit (D : Dk) (p q : Pl) (w : World) (hD : IsDk w D p q) :
    Calls Try.prog 33 #[dval D p q] w fun e w' => e = .returned (.bool D.fit) ∧ Below w.heap.size w w' := by
  by_cases h : D.sz < 1 ∨ 1024 < D.sz ∨ D.data.length % 64 ≠ 0 ∨ 4096 < D.cache.length
  · exact d_fit_head D p q w hD h
  · exact d_fit_rest D p q w hD (by omega) (by omega) (by omega) (by omega)
end Go.Proofs.Ytjpjpiejcpeepaa
