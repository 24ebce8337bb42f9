/- Plans: two sectors that are set in either order. Nothing of the program stands here. -/
import Derived.Test.YtlajbmmhgflabaaPlanLaw2
namespace Go.Proofs.Ytlajbmmhgflabaa
namespace Pn
/-- Which error setting tells hangs on how many there are, and whether it is there. -/
theorem set_err {L : Pn} {k : Int} {s : List UInt8} (h1 : sectorOk k = true) (h2 : s.length = 64) : (L.set k s).2 = if k ∈ L.targets then 0 else if 24 ≤ L.targets.length then 16 else 0 := by
  rw [set, if_neg (by rw [h1]; simp), if_neg (by omega)]
  split
  · rfl
  · split <;> rfl
theorem set_mem {L X : Pn} {k : Int} {s : List UInt8} (hX : L.set k s = (X, 0)) (x : Int) : x ∈ X.targets ↔ x ∈ L.targets ∨ x = k := by
  obtain ⟨_, _, ⟨h3, e⟩ | ⟨h3, _, e⟩⟩ := set_ok (L := L) (k := k) (s := s) (by rw [hX])
  · rw [hX] at e
    have e : X = _ := e
    rw [e]
    constructor
    · exact .inl
    · rintro (h | rfl)
      · exact h
      · exact h3
  · rw [hX] at e
    have e : X = _ := e
    rw [e]
    simp
theorem set_count {L X : Pn} {k : Int} {s : List UInt8} (hX : L.set k s = (X, 0)) : X.targets.length = if k ∈ L.targets then L.targets.length else L.targets.length + 1 := by
  obtain ⟨_, _, ⟨h3, e⟩ | ⟨h3, _, e⟩⟩ := set_ok (L := L) (k := k) (s := s) (by rw [hX])
  · rw [hX] at e
    have e : X = _ := e
    rw [e, if_pos h3]
  · rw [hX] at e
    have e : X = _ := e
    rw [e, if_neg h3]
    simp
theorem set_swap {L X Y : Pn} {k l : Int} {s t : List UInt8} (hf : L.Fit) (hkl : k ≠ l) (hX : L.set k s = (X, 0)) (hY : L.set l t = (Y, 0)) : ((Y.set k s).1, (X.set l t).2) = Y.set k s := by
  obtain ⟨a1, a2, _⟩ := set_ok (L := L) (k := k) (s := s) (by rw [hX])
  obtain ⟨b1, b2, _⟩ := set_ok (L := L) (k := l) (s := t) (by rw [hY])
  refine Prod.ext rfl ?_
  show (X.set l t).2 = (Y.set k s).2
  rw [set_err b1 b2, set_err a1 a2]
  have m1 := set_mem hX l
  have m2 := set_mem hY k
  have c1 := set_count hX
  have c2 := set_count hY
  by_cases u : k ∈ L.targets <;> by_cases v : l ∈ L.targets
  · rw [if_pos (m1.2 (.inl v)), if_pos (m2.2 (.inl u))]
  · rw [if_pos (m2.2 (.inl u)), if_neg (fun h => by rcases m1.1 h with h | h; (exact v h); exact hkl h.symm)]
    rw [if_pos u] at c1
    rw [if_neg v] at c2
    have := hf.2.1
    have hy := set_fit hf l t
    rw [hY] at hy
    have := hy.2.1
    simp only at this
    rw [if_neg (by omega)]
  · rw [if_pos (m1.2 (.inl v)), if_neg (fun h => by rcases m2.1 h with h | h; (exact u h); exact hkl h)]
    rw [if_neg u] at c1
    rw [if_pos v] at c2
    have hx := set_fit hf k s
    rw [hX] at hx
    have := hx.2.1
    simp only at this
    rw [if_neg (by omega)]
  · have k1 : l ∉ X.targets := fun h => by rcases m1.1 h with h | h; (exact v h); exact hkl h.symm
    have k2 : k ∉ Y.targets := fun h => by rcases m2.1 h with h | h; (exact u h); exact hkl h
    rw [if_neg k1, if_neg k2]
    rw [if_neg u] at c1
    rw [if_neg v] at c2
    rw [c1, c2]
theorem look_swap {L X Y U Z : Pn} {k l : Int} {s t : List UInt8} (hf : L.Fit) (hkl : k ≠ l) (hX : L.set k s = (X, 0)) (hY : L.set l t = (Y, 0)) (hU : X.set l t = (U, 0)) (hZ : Y.set k s = (Z, 0)) (D : Dk) (o : Int) : look D U o = look D Z o := by
  have fx := set_fit hf k s
  have fy := set_fit hf l t
  have lx := look_set hf (k := k) (s := s) (by rw [hX]) D
  have ly := look_set hf (k := l) (s := t) (by rw [hY]) D
  rw [hX] at fx lx
  rw [hY] at fy ly
  have lu := look_set fx (k := l) (s := t) (by rw [hU]) D
  have lz := look_set fy (k := k) (s := s) (by rw [hZ]) D
  rw [hU] at lu
  rw [hZ] at lz
  obtain ⟨lx1, lx2⟩ : look D X k = (s, 0) ∧ ∀ o, o ≠ k → look D X o = look D L o := lx
  obtain ⟨ly1, ly2⟩ : look D Y l = (t, 0) ∧ ∀ o, o ≠ l → look D Y o = look D L o := ly
  obtain ⟨lu1, lu2⟩ : look D U l = (t, 0) ∧ ∀ o, o ≠ l → look D U o = look D X o := lu
  obtain ⟨lz1, lz2⟩ : look D Z k = (s, 0) ∧ ∀ o, o ≠ k → look D Z o = look D Y o := lz
  by_cases h1 : o = l
  · subst h1
    rw [lu1, lz2 o (Ne.symm hkl), ly1]
  · rw [lu2 o h1]
    by_cases h2 : o = k
    · subst h2
      rw [lx1, lz1]
    · rw [lx2 o h2, lz2 o h2, ly2 o h1]
end Pn
end Go.Proofs.Ytlajbmmhgflabaa
