/- Package cofferdamlaw01: what its statements share: a device that is looked at first, what a write is. -/
import Derived.Test.YtjpjpiejcpeepaaLaw01b
import Derived.Test.YtjpjpiejcpeepaaDevLaw
import Derived.Test.YtjpjpiejcpeepaaOpen
set_option linter.unusedVariables false
namespace Go.Proofs.Ytjpjpiejcpeepaa
open Go.RowKit Go.Shelf
attribute [local go_sem] bs_mk bs_append bs_extract bs_size bs_toList bs_get

theorem light0 (D : Dk) (p q : Pl) (w : World) (hdl : D.data.length ≤ 9223372036854775807) (hcl : D.cache.length ≤ 9223372036854775807) (hbl : D.bad.length ≤ 9223372036854775807) :
    Calls Try.prog 19 #[dval D p q] w fun e w' => e = .returned (.bool (light D)) ∧ Below w.heap.size w w' := by
  obtain ⟨A1, c1⟩ := p
  obtain ⟨A2, c2⟩ := q
  by_cases h1 : D.data.length ≤ 65536
  · by_cases h2 : D.cache.length ≤ 300
    · have Hl := hid (show light D = decide ((D.bad.length : Int) ≤ 1024) by simp [light, h1, h2]; omega)
      go_enter Try.func19, Try.ntmps19
      go_wp2_with fail
      go_ret
      exact ⟨by rw [Hl.out]; rfl, (Below.refl _ _).alloc (Nat.le_refl _) _⟩
    · have Hl := hid (show light D = false by simp [light, h1, h2])
      have h2' : ¬ (D.cache.length : Int) ≤ 300 := by omega
      go_enter Try.func19, Try.ntmps19
      go_wp2_with fail
      go_ret
      exact ⟨by rw [Hl.out]; rfl, (Below.refl _ _).alloc (Nat.le_refl _) _⟩
  · have Hl := hid (show light D = false by simp [light, h1])
    have h1' : ¬ (D.data.length : Int) ≤ 65536 := by omega
    go_enter Try.func19, Try.ntmps19
    go_wp2_with fail
    go_ret
    exact ⟨by rw [Hl.out]; rfl, (Below.refl _ _).alloc (Nat.le_refl _) _⟩
theorem light_of {D : Dk} (h : light D = true) : D.data.length ≤ 65536 ∧ D.cache.length ≤ 300 ∧ D.bad.length ≤ 1024 := by
  simp only [light, Bool.and_eq_true, decide_eq_true_eq] at h
  exact ⟨h.1.1, h.1.2, h.2⟩
namespace Dk
/-- A write that is not done. -/
theorem write_not {D : Dk} {k : Int} {s : List UInt8} (h : (D.write k s).2 ≠ 0) : ∃ wo e, D.write k s = ({ D with off := wo }, e) ∧ e ≠ 0 ∧ (wo = D.off ∨ e = 12) := by
  unfold write at h ⊢
  by_cases h1 : D.off = true
  · rw [if_pos h1]; exact ⟨D.off, 12, rfl, by omega, .inl rfl⟩
  rw [if_neg h1] at h ⊢
  by_cases h2 : D.there k = false
  · rw [if_pos h2]; exact ⟨D.off, 10, rfl, by omega, .inl rfl⟩
  rw [if_neg h2] at h ⊢
  by_cases h3 : s.length ≠ 64
  · rw [if_pos h3]; exact ⟨D.off, 11, rfl, by omega, .inl rfl⟩
  rw [if_neg h3] at h ⊢
  by_cases h4 : D.fuse = 0
  · rw [if_pos h4]; exact ⟨true, 12, rfl, by omega, .inr rfl⟩
  rw [if_neg h4] at h ⊢
  by_cases h5 : k ∈ D.bad
  · rw [if_pos h5]; exact ⟨D.off, 13, rfl, by omega, .inl rfl⟩
  rw [if_neg h5] at h ⊢
  by_cases h6 : 4096 ≤ D.cache.length
  · rw [if_pos h6]; exact ⟨D.off, 16, rfl, by omega, .inl rfl⟩
  rw [if_neg h6] at h
  exact absurd rfl h
/-- A write that is done. -/
theorem write_ok {D : Dk} {k : Int} {s : List UInt8} (h : (D.write k s).2 = 0) : D.off = false ∧ D.there k = true ∧ s.length = 64 ∧ D.fuse ≠ 0 ∧ k ∉ D.bad ∧ D.cache.length < 4096 ∧ D.write k s = (({ D with cache := D.cache ++ [(k, s)] } : Dk).burnt, 0) := by
  unfold write at h ⊢
  by_cases h1 : D.off = true
  · rw [if_pos h1] at h; cases h
  rw [if_neg h1] at h ⊢
  by_cases h2 : D.there k = false
  · rw [if_pos h2] at h; cases h
  rw [if_neg h2] at h ⊢
  by_cases h3 : s.length ≠ 64
  · rw [if_pos h3] at h; cases h
  rw [if_neg h3] at h ⊢
  by_cases h4 : D.fuse = 0
  · rw [if_pos h4] at h; cases h
  rw [if_neg h4] at h ⊢
  by_cases h5 : k ∈ D.bad
  · rw [if_pos h5] at h; cases h
  rw [if_neg h5] at h ⊢
  by_cases h6 : 4096 ≤ D.cache.length
  · rw [if_pos h6] at h; cases h
  rw [if_neg h6]
  refine ⟨by simpa using h1, by simpa using h2, by omega, h4, h5, by omega, rfl⟩
end Dk
end Go.Proofs.Ytjpjpiejcpeepaa
