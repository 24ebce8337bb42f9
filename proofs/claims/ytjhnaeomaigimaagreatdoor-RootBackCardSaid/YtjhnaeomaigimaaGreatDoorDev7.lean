/- Package dev, function by function: which devices can be, and which are the same. Package dev, function by function: which devices can be. -/
import Derived.Test.YtjhnaeomaigimaaGreatDoorDev4
import Derived.Test.YtjhnaeomaigimaaGreatDoorRef01
set_option linter.unusedVariables false
namespace Go.Proofs.YtjhnaeomaigimaaGreatDoor
open Go.RowKit Go.Shelf
attribute [local go_sem] bs_mk bs_append bs_extract bs_size bs_toList bs_get

theorem eq_of_parts {α : Type} {l m : List α} {n : Nat} (h : l.length = m.length) (hn : l.length ≤ n) (hok : ∀ j (hj : j < l.length) (hj' : j < m.length), j < n → l[j] = m[j]) : l = m :=
  List.ext_getElem h fun j hj hj' => hok j hj hj' (by omega)
theorem ne_at {α : Type} {l m : List α} (i : Nat) (h1 : i < l.length) (h2 : i < m.length) (h : l[i] ≠ m[i]) : l ≠ m := fun e => h (by subst e; rfl)
end Go.Proofs.YtjhnaeomaigimaaGreatDoor
set_option linter.unusedVariables false
namespace Go.Proofs.YtjhnaeomaigimaaGreatDoor
open Go.RowKit Go.Shelf
attribute [local go_sem] bs_mk bs_append bs_extract bs_size bs_toList bs_get

namespace Dk
theorem fit_no_head {D : Dk} (h : D.sz < 1 ∨ 1024 < D.sz ∨ D.data.length % 64 ≠ 0 ∨ 4096 < D.cache.length) : D.fit = false := by
  rw [← Bool.not_eq_true]
  intro hf
  have := hf
  simp only [fit, Bool.and_eq_true, decide_eq_true_eq] at this
  obtain ⟨h1, h2, h3, h4, _⟩ := this
  omega
/-- The first i refused sectors are there, each greater than the one ahead. -/
def BadOk (D : Dk) (i : Nat) : Prop := D.cache.all D.putOk = true ∧ ∀ j (hj : j < D.bad.length), j < i → D.there D.bad[j] = true ∧ ∀ h0 : 0 < j, D.bad[j - 1] < D.bad[j]
theorem badOk_end {D : Dk} (h1 : 1 ≤ D.sz) (h2 : D.sz ≤ 1024) (h3 : D.data.length % 64 = 0) (h4 : D.cache.length ≤ 4096) {b : Bool} {i : Nat} (hi : D.bad.length ≤ i) (hb : b = false ↔ D.BadOk i) : D.fit = !b := by
  cases b with
  | false =>
    obtain ⟨h5, h6⟩ := hb.1 rfl
    refine fit_yes h1 h2 h3 h4 (fun i hi => List.all_eq_true.1 h5 _ (List.getElem_mem hi)) (fun i h => (h6 i h (by omega)).1) (fun i h h0 => (h6 i h (by omega)).2 h0)
  | true =>
    show D.fit = false
    rw [← Bool.not_eq_true]
    intro hf
    have hp := fit_parts hf
    have : D.BadOk i := by
      refine ⟨?_, fun j hj _ => ⟨?_, fun h0 => ?_⟩⟩
      · have := hf; simp only [fit, Bool.and_eq_true] at this; exact this.2.2.2.2.1
      · have := hp.2.2.2.2.2.1 j hj; simp [there, this]
      · have := (incr_at _).1 hp.2.2.2.2.2.2 (j - 1) (by omega)
        simpa only [show j - 1 + 1 = j by omega] using this
    exact absurd (hb.2 this) (by simp)
theorem badOk_next {D : Dk} {i : Nat} (hi : i < D.bad.length) {b c : Bool} (hb : b = false ↔ D.BadOk i) (hc : c = false ↔ (D.there D.bad[i] = true ∧ ∀ h0 : 0 < i, D.bad[i - 1] < D.bad[i])) : (b || c) = false ↔ D.BadOk (i + 1) := by
  rw [Bool.or_eq_false_iff, hb, hc]
  constructor
  · rintro ⟨⟨h1, h2⟩, h3⟩
    refine ⟨h1, fun j hj hji => ?_⟩
    rcases Nat.lt_or_ge j i with h | h
    · exact h2 j hj h
    · obtain rfl : j = i := by omega
      exact h3
  · rintro ⟨h1, h2⟩
    exact ⟨⟨h1, fun j hj hji => h2 j hj (by omega)⟩, h2 i hi (by omega)⟩
theorem badOk_stays {D : Dk} {i : Nat} (h : true = false ↔ D.BadOk i) : true = false ↔ D.BadOk (i + 1) :=
  ⟨fun e => (by cases e), fun ⟨h1, h2⟩ => h.2 ⟨h1, fun j hj hji => h2 j hj (by omega)⟩⟩
end Dk
end Go.Proofs.YtjhnaeomaigimaaGreatDoor
