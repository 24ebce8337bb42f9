/- Package dev, function by function: which devices can be, and which are the same. Package dev, function by function: which devices can be. -/
import Derived.Test.YtkiokdphjfkocaaDev4
import Derived.Test.YtkiokdphjfkocaaRef01
set_option linter.unusedVariables false
namespace Go.Proofs.Ytkiokdphjfkocaa
open Go.RowKit Go.Shelf
attribute [local go_sem] bs_mk bs_append bs_extract bs_size bs_toList bs_get

theorem eq_of_parts {α : Type} {l m : List α} {n : Nat} (h : l.length = m.length) (hn : l.length ≤ n) (hok : ∀ j (hj : j < l.length) (hj' : j < m.length), j < n → l[j] = m[j]) : l = m :=
  List.ext_getElem h fun j hj hj' => hok j hj hj' (by omega)
theorem ne_at {α : Type} {l m : List α} (i : Nat) (h1 : i < l.length) (h2 : i < m.length) (h : l[i] ≠ m[i]) : l ≠ m := fun e => h (by subst e; rfl)
set_option maxRecDepth 100000 in
theorem ints_equal (A B : Option Addr) (c d : Nat) (l m : List Int) (w : World) (hA : Cells w A (intCells l)) (hB : Cells w B (intCells m)) (hl : l.length ≤ 17592186044416) :
    Calls Try.prog 60 #[.slice A l.length c, .slice B m.length d] w fun e w' => e = .returned (.bool (decide (l = m))) ∧ Below w.heap.size w w' := by
  by_cases h2 : l.length = m.length
  case neg =>
    have Hf := hid (show decide (l = m) = false by simp; intro e; exact h2 (by rw [e]))
    have n0 : ((l.length : Int) != m.length) = true := by simp; omega
    clear h2
    go_enter Try.func60, Try.ntmps60
    go_wp2_with fail
    go_ret
    exact ⟨by rw [Hf.out]; rfl, Below.refl _ _⟩
  have n2 : ((l.length : Int) != m.length) = false := by simp; omega
  have H2 := hid h2; clear h2
  go_enter Try.func60, Try.ntmps60
  go_wp2_with fail
  go_loopw [13] (fun x W => ∃ i : Nat, i ≤ l.length ∧ x = .int .i64 i ∧ Hid (∀ j (hj : j < l.length) (hj' : j < m.length), j < i → l[j] = m[j]) ∧ Below w.heap.size w W) (fun x _ => l.length - (intOf x).toNat)
  case atStart => exact ⟨0, Nat.zero_le _, rfl, hid (fun j hj hj' h0 => by omega), Below.refl _ _⟩
  case round =>
    obtain ⟨i, hi, rfl, hok, hb⟩ := hrel
    by_cases hlt : i < l.length
    · have hlt' : i < m.length := by have := H2.out; omega
      obtain ⟨pb, po, hpa, hcell⟩ := (hA.below hb).int hlt
      obtain ⟨pb', po', hpa', hcell'⟩ := (hB.below hb).int hlt'
      subst hpa
      subst hpa'
      have x0 := hcell i hlt
      have y0 := hcell' i hlt'
      have X0 := fun e : Ext wr => e.cell x0
      have Y0 := fun e : Ext wr => e.cell y0
      clear hcell hcell'
      by_cases he : l[i] = m[i]
      · have he1 : (l[i] != m[i]) = false := by simp [he]
        have He := hid he; clear he
        go_wp2_with fail
        refine wp_region_ext mixed (by kernel_rfl) ?_
        repeat (go_big_quiet_step ((fail)))
        refine wpQuiet_nil ?_
        rintro w2 ⟨pq_, hpq_⟩
        have hb2 := pq_.below
        rw [← hpq_] at hb2
        clear hpq_ pq_
        go_wp2_with fail
        go_roundw
        case rel => exact ⟨i + 1, by omega, by go_num, hid (fun j hj hj' hji => by
          rcases Nat.lt_or_ge j i with h' | h'
          · exact hok.out j hj hj' h'
          · obtain rfl : j = i := by omega
            exact He.out), bt hb hb2⟩
        case measure => simp [intOf]; omega
      · have He := hid (show decide (l = m) = false by simpa using ne_at i hlt hlt' he)
        have he1 : (l[i] != m[i]) = true := by simpa using he
        clear he
        go_wp2_with fail
        refine wp_region_ext mixed (by kernel_rfl) ?_
        repeat (go_big_quiet_step ((fail)))
        refine wpQuiet_nil ?_
        rintro w2 ⟨pq_, hpq_⟩
        have hb2 := pq_.below
        rw [← hpq_] at hb2
        clear hpq_ pq_
        go_wp2_with fail
        go_ret
        exact ⟨by rw [He.out]; rfl, bt hb hb2⟩
    · have He := hid (show decide (l = m) = true by simpa using eq_of_parts H2.out (show l.length ≤ i by omega) hok.out)
      clear hok
      go_wp2_with fail
      go_ret
      exact ⟨by rw [He.out]; rfl, hb⟩
end Go.Proofs.Ytkiokdphjfkocaa
set_option linter.unusedVariables false
namespace Go.Proofs.Ytkiokdphjfkocaa
open Go.RowKit Go.Shelf
attribute [local go_sem] bs_mk bs_append bs_extract bs_size bs_toList bs_get

namespace Dk
theorem fit_no_head {D : Dk} (h : D.sz < 1 ∨ 1024 < D.sz ∨ D.data.length % 64 ≠ 0 ∨ 4096 < D.cache.length) : D.fit = false := by
  rw [← Bool.not_eq_true]
  intro hf
  have := hf
  simp only [fit, Bool.and_eq_true, decide_eq_true_eq] at this
  obtain ⟨h1, h2, h3, h4, _⟩ := this
  omega
/-- The first i refused sectors are there, each greater than the one ahead. -/
def BadOk (D : Dk) (i : Nat) : Prop := D.cache.all D.putOk = true ∧ ∀ j (hj : j < D.bad.length), j < i → D.there D.bad[j] = true ∧ ∀ h0 : 0 < j, D.bad[j - 1] < D.bad[j]
theorem badOk_end {D : Dk} (h1 : 1 ≤ D.sz) (h2 : D.sz ≤ 1024) (h3 : D.data.length % 64 = 0) (h4 : D.cache.length ≤ 4096) {b : Bool} {i : Nat} (hi : D.bad.length ≤ i) (hb : b = false ↔ D.BadOk i) : D.fit = !b := by
  cases b with
  | false =>
    obtain ⟨h5, h6⟩ := hb.1 rfl
    refine fit_yes h1 h2 h3 h4 (fun i hi => List.all_eq_true.1 h5 _ (List.getElem_mem hi)) (fun i h => (h6 i h (by omega)).1) (fun i h h0 => (h6 i h (by omega)).2 h0)
  | true =>
    show D.fit = false
    rw [← Bool.not_eq_true]
    intro hf
    have hp := fit_parts hf
    have : D.BadOk i := by
      refine ⟨?_, fun j hj _ => ⟨?_, fun h0 => ?_⟩⟩
      · have := hf; simp only [fit, Bool.and_eq_true] at this; exact this.2.2.2.2.1
      · have := hp.2.2.2.2.2.1 j hj; simp [there, this]
      · have := (incr_at _).1 hp.2.2.2.2.2.2 (j - 1) (by omega)
        simpa only [show j - 1 + 1 = j by omega] using this
    exact absurd (hb.2 this) (by simp)
theorem badOk_next {D : Dk} {i : Nat} (hi : i < D.bad.length) {b c : Bool} (hb : b = false ↔ D.BadOk i) (hc : c = false ↔ (D.there D.bad[i] = true ∧ ∀ h0 : 0 < i, D.bad[i - 1] < D.bad[i])) : (b || c) = false ↔ D.BadOk (i + 1) := by
  rw [Bool.or_eq_false_iff, hb, hc]
  constructor
  · rintro ⟨⟨h1, h2⟩, h3⟩
    refine ⟨h1, fun j hj hji => ?_⟩
    rcases Nat.lt_or_ge j i with h | h
    · exact h2 j hj h
    · obtain rfl : j = i := by omega
      exact h3
  · rintro ⟨h1, h2⟩
    exact ⟨⟨h1, fun j hj hji => h2 j hj (by omega)⟩, h2 i hi (by omega)⟩
theorem badOk_stays {D : Dk} {i : Nat} (h : true = false ↔ D.BadOk i) : true = false ↔ D.BadOk (i + 1) :=
  ⟨fun e => (by cases e), fun ⟨h1, h2⟩ => h.2 ⟨h1, fun j hj hji => h2 j hj (by omega)⟩⟩
end Dk
end Go.Proofs.Ytkiokdphjfkocaa
