/- What is told one by one, with the first error; all counts: the plain words and laws. Nothing of the program stands here. -/
import Derived.Test.YtlajbmmhgflabaaRefcLaw
namespace Go.Proofs.Ytlajbmmhgflabaa

/-- The first n answers; [] and the error, where one can't be told. -/
def allN {α : Type} (f : Nat → α × Int) : Nat → List α × Int
  | 0 => ([], 0)
  | n + 1 => if (allN f n).2 ≠ 0 then allN f n else if (f n).2 ≠ 0 then ([], (f n).2) else ((allN f n).1 ++ [(f n).1], 0)
section
variable {α : Type} {f : Nat → α × Int}
theorem allN_next {n : Nat} (h : (allN f n).2 = 0) (hg : (f n).2 = 0) : allN f (n + 1) = ((allN f n).1 ++ [(f n).1], 0) := by
  rw [allN, if_neg (by rw [h]; simp), if_neg (by rw [hg]; simp)]
theorem allN_stop {n : Nat} (h : (allN f n).2 = 0) (hg : (f n).2 ≠ 0) : ∀ m, n < m → allN f m = ([], (f n).2) := by
  intro m hm
  induction m with
  | zero => omega
  | succ m ih =>
    rcases Nat.lt_or_eq_of_le (Nat.le_of_lt_succ hm) with h1 | h1
    · rw [allN, ih h1, if_pos hg]
    · subst h1
      rw [allN, if_neg (by rw [h]; simp), if_pos hg]
theorem allN_ok {n : Nat} (h : (allN f n).2 = 0) : (allN f n).1.length = n ∧ ∀ i : Nat, i < n → (f i).2 = 0 ∧ (allN f n).1[i]? = some (f i).1 := by
  induction n with
  | zero => exact ⟨rfl, fun i hi => by omega⟩
  | succ n ih =>
    by_cases h1 : (allN f n).2 = 0
    · by_cases h2 : (f n).2 = 0
      · obtain ⟨a, b⟩ := ih h1
        rw [allN_next h1 h2]
        refine ⟨by simp [a], fun i hi => ?_⟩
        rcases Nat.lt_or_eq_of_le (Nat.le_of_lt_succ hi) with h3 | h3
        · exact ⟨(b i h3).1, by show ((allN f n).1 ++ [(f n).1])[i]? = _; rw [List.getElem?_append_left (by omega)]; exact (b i h3).2⟩
        · subst h3
          exact ⟨h2, by show ((allN f i).1 ++ [(f i).1])[i]? = _; rw [List.getElem?_append_right (by omega), a]; simp⟩
      · rw [allN, if_neg (by rw [h1]; simp), if_pos h2] at h
        exact absurd h h2
    · rw [allN, if_pos h1] at h
      exact absurd h h1
theorem allN_err {n : Nat} (h : (allN f n).2 ≠ 0) : (allN f n).1 = [] := by
  induction n with
  | zero => rfl
  | succ n ih =>
    revert h
    rw [allN]
    split
    · rename_i h1; intro _; exact ih h1
    · split
      · intro _; rfl
      · intro h; exact absurd rfl h
theorem allN_len (n : Nat) : (allN f n).1.length ≤ n := by
  by_cases h : (allN f n).2 = 0
  · rw [(allN_ok h).1]; exact Nat.le_refl _
  · rw [allN_err h]; exact Nat.zero_le _
theorem allN_all {n : Nat} (h : ∀ i : Nat, i < n → (f i).2 = 0) : (allN f n).2 = 0 := by
  induction n with
  | zero => rfl
  | succ n ih => rw [allN_next (ih (fun i hi => h i (by omega))) (h n (by omega))]
theorem allN_mem (n : Nat) : ∀ x ∈ (allN f n).1, ∃ i, i < n ∧ x = (f i).1 := by
  intro x hx
  by_cases h : (allN f n).2 = 0
  · obtain ⟨a, b⟩ := allN_ok h
    obtain ⟨i, hi, rfl⟩ := List.getElem_of_mem hx
    have := (b i (by omega)).2
    rw [List.getElem?_eq_getElem hi] at this
    injection this with this
    exact ⟨i, by omega, this⟩
  · rw [allN_err h] at hx; cases hx
end
namespace Pn
def cntAll (D : Dk) (L : Pn) (n : Int) : List Int × Int := if n < 0 ∨ 256 < n then ([], 10) else allN (fun i : Nat => cntGet D L i) n.toNat
variable {D : Dk} {L : Pn}
theorem cntAll_bound (n : Int) : ∀ x ∈ (cntAll D L n).1, 0 ≤ x ∧ x ≤ 65535 := by
  intro x hx
  rw [cntAll] at hx
  split at hx
  · cases hx
  · obtain ⟨i, _, rfl⟩ := allN_mem _ x hx
    exact cntGet_le D L i
theorem cntAll_ok {n : Int} (h : (cntAll D L n).2 = 0) : 0 ≤ n ∧ n ≤ 256 ∧ (cntAll D L n).1.length = n.toNat ∧ ∀ i : Nat, (i : Int) < n → (cntGet D L i).2 = 0 ∧ (cntAll D L n).1[i]? = some (cntGet D L i).1 := by
  by_cases h1 : n < 0 ∨ 256 < n
  · rw [cntAll, if_pos h1] at h; simp at h
  · rw [cntAll, if_neg h1] at h ⊢
    obtain ⟨a, b⟩ := allN_ok h
    exact ⟨by omega, by omega, a, fun i hi => b i (by omega)⟩
theorem cntAll_err {n : Int} (h : (cntAll D L n).2 ≠ 0) : (cntAll D L n).1 = [] := by
  revert h
  rw [cntAll]
  split
  · intro _; rfl
  · exact allN_err
theorem cntAll_len (n : Int) : (cntAll D L n).1.length ≤ 256 := by
  rw [cntAll]
  split
  · simp
  · have := allN_len (f := fun i : Nat => cntGet D L i) n.toNat
    omega
end Pn
end Go.Proofs.Ytlajbmmhgflabaa
