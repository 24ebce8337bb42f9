/- Package cofferdamlaw01: what its statements share. -/
import Derived.Test.YtjpjpiejcpeepaaDev4
import Derived.Test.YtjpjpiejcpeepaaRef01b
set_option linter.unusedVariables false
namespace Go.Proofs.Ytjpjpiejcpeepaa
open Go.RowKit Go.Shelf
attribute [local go_sem] bs_mk bs_append bs_extract bs_size bs_toList bs_get

theorem r1_fit (D : Dk) (p q : Pl) (w : World) (hD : IsDk w D p q) (hc : D.cache.length ≤ 4398046511104) :
    Calls Try.prog 20 #[dval D p q] w fun e w' => e = .returned (.bool D.fit) ∧ Below w.heap.size w w' := by
  by_cases h : D.sz < 1 ∨ 1024 < D.sz ∨ D.data.length % 64 ≠ 0 ∨ 4096 < D.cache.length
  · exact r1_fit_head D p q hD.data hc h w
  · exact r1_fit_rest D p q w hD (by omega) (by omega) (by omega) (by omega)
def light (D : Dk) : Bool := decide (D.data.length ≤ 65536) && decide (D.cache.length ≤ 300) && decide (D.bad.length ≤ 1024)
theorem light1 (D : Dk) (p q : Pl) (w : World) (hD : IsDk w D p q) :
    Calls Try.prog 19 #[dval D p q] w fun e w' => e = .returned (.bool (light D)) ∧ Below w.heap.size w w' := by
  obtain ⟨A1, c1⟩ := p
  obtain ⟨A2, c2⟩ := q
  have hdl := hD.data
  by_cases h1 : D.data.length ≤ 65536
  · by_cases h2 : D.cache.length ≤ 300
    · have Hl := hid (show light D = decide ((D.bad.length : Int) ≤ 1024) by simp [light, h1, h2]; omega)
      go_enter Try.func19, Try.ntmps19
      go_wp2_with fail
      go_ret
      exact ⟨by rw [Hl.out]; rfl, (Below.refl _ _).alloc (Nat.le_refl _) _⟩
    · have Hl := hid (show light D = false by simp [light, h1, h2])
      have h2' : ¬ (D.cache.length : Int) ≤ 300 := by omega
      go_enter Try.func19, Try.ntmps19
      go_wp2_with fail
      go_ret
      exact ⟨by rw [Hl.out]; rfl, (Below.refl _ _).alloc (Nat.le_refl _) _⟩
  · have Hl := hid (show light D = false by simp [light, h1])
    have h1' : ¬ (D.data.length : Int) ≤ 65536 := by omega
    go_enter Try.func19, Try.ntmps19
    go_wp2_with fail
    go_ret
    exact ⟨by rw [Hl.out]; rfl, (Below.refl _ _).alloc (Nat.le_refl _) _⟩
end Go.Proofs.Ytjpjpiejcpeepaa
