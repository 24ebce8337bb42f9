/- Clusters that are free: the plain words and laws. Nothing of the program stands here. -/
import Derived.Test.YtlajbmmhgflabaaRefcLaw3
namespace Go.Proofs.Ytlajbmmhgflabaa
namespace Pn
def none : Pn := ⟨[], []⟩
theorem none_fit : none.Fit := ⟨rfl, by simp [none], fun i h => by simp [none] at h, fun i h => by simp [none] at h⟩
/-- How often a cluster is counted by the plan and on the device together. -/
def both (D : Dk) (L : Pn) (k : Nat) : Int × Int :=
  if (cntGet D L k).2 ≠ 0 then (0, (cntGet D L k).2) else if (cntGet D none k).2 ≠ 0 then (0, (cntGet D none k).2) else ((cntGet D L k).1 + (cntGet D none k).1, 0)
def stopsAt (D : Dk) (L : Pn) (k : Nat) : Bool := decide ((both D L k).2 ≠ 0) || decide ((both D L k).1 = 0)
/-- The first free cluster, of h; 17, where there is none. -/
def alFind (D : Dk) (L : Pn) (h : Int) : Int × Int :=
  match (List.range h.toNat).find? (stopsAt D L) with
  | .none => (0, 17)
  | some k => if (both D L k).2 ≠ 0 then (0, (both D L k).2) else (k, 0)
def alTake (D : Dk) (L : Pn) (h : Int) : Pn × Int × Int :=
  if (alFind D L h).2 ≠ 0 then (L, 0, (alFind D L h).2) else if (cntAdd D L (alFind D L h).1 1).2 ≠ 0 then (L, 0, (cntAdd D L (alFind D L h).1 1).2) else ((cntAdd D L (alFind D L h).1 1).1, (alFind D L h).1, 0)
def usedIn (l : List Int) : Int := ((l.countP (· ≠ 0) : Nat) : Int)
def alUsed (D : Dk) (L : Pn) (h : Int) : Int × Int := (usedIn (cntAll D L h).1, (cntAll D L h).2)
variable {D : Dk} {L : Pn}
theorem find_range {p : Nat → Bool} {n k : Nat} : (List.range n).find? p = some k ↔ k < n ∧ p k = true ∧ ∀ j, j < k → p j = false := by
  rw [List.find?_range_eq_some]
  simp only [List.mem_range, Bool.not_eq_true']
  constructor
  · rintro ⟨a, b, c⟩; exact ⟨b, a, fun j hj => c j hj⟩
  · rintro ⟨a, b, c⟩; exact ⟨b, a, fun j hj => c j hj⟩
theorem find_range_none {p : Nat → Bool} {n : Nat} : (List.range n).find? p = .none ↔ ∀ j, j < n → p j = false := by
  rw [List.find?_eq_none]
  simp
theorem alFind_hit {h : Int} {k : Nat} (hk : (k : Int) < h) (hs : stopsAt D L k = true) (hn : ∀ j, j < k → stopsAt D L j = false) : alFind D L h = if (both D L k).2 ≠ 0 then (0, (both D L k).2) else ((k : Int), 0) := by
  have := find_range.2 ⟨show k < h.toNat by omega, hs, hn⟩
  rw [alFind, this]
theorem alFind_miss {h : Int} (hn : ∀ j : Nat, (j : Int) < h → stopsAt D L j = false) : alFind D L h = (0, 17) := by
  have := find_range_none.2 (fun (j : Nat) (hj : j < h.toNat) => hn j (by omega))
  rw [alFind, this]
theorem both_ok {k : Nat} (h : (both D L k).2 = 0) : (cntGet D L k).2 = 0 ∧ (cntGet D none k).2 = 0 ∧ (both D L k).1 = (cntGet D L k).1 + (cntGet D none k).1 := by
  revert h
  rw [both]
  split
  · rename_i h; intro h2; exact absurd h2 h
  · rename_i h1
    split
    · rename_i h; intro h2; exact absurd h2 h
    · rename_i h2
      intro _
      exact ⟨by simpa using h1, by simpa using h2, rfl⟩
theorem alFind_cases (D : Dk) (L : Pn) (h : Int) :
    (∃ k : Nat, (k : Int) < h ∧ alFind D L h = ((k : Int), 0) ∧ (cntGet D L k).2 = 0 ∧ (cntGet D none k).2 = 0 ∧ (cntGet D L k).1 = 0 ∧ (cntGet D none k).1 = 0 ∧ ∀ j, j < k → stopsAt D L j = false) ∨ ((alFind D L h).2 ≠ 0 ∧ (alFind D L h).1 = 0) := by
  cases hf : (List.range h.toNat).find? (stopsAt D L) with
  | none => right; rw [alFind, hf]; simp
  | some k =>
    obtain ⟨h1, h2, h3⟩ := find_range.1 hf
    have e : alFind D L h = if (both D L k).2 ≠ 0 then (0, (both D L k).2) else ((k : Int), 0) := by rw [alFind, hf]
    by_cases h4 : (both D L k).2 = 0
    · left
      rw [if_neg (by rw [h4]; simp)] at e
      obtain ⟨a, b, c⟩ := both_ok h4
      have hz : (both D L k).1 = 0 := by
        simp only [stopsAt, Bool.or_eq_true, decide_eq_true_eq] at h2
        rcases h2 with h2 | h2
        · exact absurd h4 h2
        · exact h2
      have i1 := cntGet_le D L k
      have i2 := cntGet_le D none k
      exact ⟨k, by omega, e, a, b, by omega, by omega, h3⟩
    · right
      rw [if_pos h4] at e
      rw [e]
      exact ⟨h4, rfl⟩
end Pn
end Go.Proofs.Ytlajbmmhgflabaa
