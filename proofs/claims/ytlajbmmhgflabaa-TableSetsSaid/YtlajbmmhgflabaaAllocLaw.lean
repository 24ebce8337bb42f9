/- Clusters that are free: the plain words and laws. Nothing of the program stands here. Clusters that are taken: the plain laws. Nothing of the program stands here. -/
import Derived.Test.YtlajbmmhgflabaaRefcLaw
namespace Go.Proofs.Ytlajbmmhgflabaa
namespace Pn
def none : Pn := ⟨[], []⟩
theorem none_fit : none.Fit := ⟨rfl, by simp [none], fun i h => by simp [none] at h, fun i h => by simp [none] at h⟩
/-- How often a cluster is counted by the plan and on the device together. -/
def both (D : Dk) (L : Pn) (k : Nat) : Int × Int :=
  if (cntGet D L k).2 ≠ 0 then (0, (cntGet D L k).2) else if (cntGet D none k).2 ≠ 0 then (0, (cntGet D none k).2) else ((cntGet D L k).1 + (cntGet D none k).1, 0)
def stopsAt (D : Dk) (L : Pn) (k : Nat) : Bool := decide ((both D L k).2 ≠ 0) || decide ((both D L k).1 = 0)
/-- The first free cluster, of h; 17, where there is none. -/
def alFind (D : Dk) (L : Pn) (h : Int) : Int × Int :=
  match (List.range h.toNat).find? (stopsAt D L) with
  | .none => (0, 17)
  | some k => if (both D L k).2 ≠ 0 then (0, (both D L k).2) else (k, 0)
def alTake (D : Dk) (L : Pn) (h : Int) : Pn × Int × Int :=
  if (alFind D L h).2 ≠ 0 then (L, 0, (alFind D L h).2) else if (cntAdd D L (alFind D L h).1 1).2 ≠ 0 then (L, 0, (cntAdd D L (alFind D L h).1 1).2) else ((cntAdd D L (alFind D L h).1 1).1, (alFind D L h).1, 0)
def usedIn (l : List Int) : Int := ((l.countP (· ≠ 0) : Nat) : Int)
def alUsed (D : Dk) (L : Pn) (h : Int) : Int × Int := (usedIn (cntAll D L h).1, (cntAll D L h).2)
variable {D : Dk} {L : Pn}
theorem find_range {p : Nat → Bool} {n k : Nat} : (List.range n).find? p = some k ↔ k < n ∧ p k = true ∧ ∀ j, j < k → p j = false := by
  rw [List.find?_range_eq_some]
  simp only [List.mem_range, Bool.not_eq_true']
  constructor
  · rintro ⟨a, b, c⟩; exact ⟨b, a, fun j hj => c j hj⟩
  · rintro ⟨a, b, c⟩; exact ⟨b, a, fun j hj => c j hj⟩
theorem find_range_none {p : Nat → Bool} {n : Nat} : (List.range n).find? p = .none ↔ ∀ j, j < n → p j = false := by
  rw [List.find?_eq_none]
  simp
theorem alFind_hit {h : Int} {k : Nat} (hk : (k : Int) < h) (hs : stopsAt D L k = true) (hn : ∀ j, j < k → stopsAt D L j = false) : alFind D L h = if (both D L k).2 ≠ 0 then (0, (both D L k).2) else ((k : Int), 0) := by
  have := find_range.2 ⟨show k < h.toNat by omega, hs, hn⟩
  rw [alFind, this]
theorem alFind_miss {h : Int} (hn : ∀ j : Nat, (j : Int) < h → stopsAt D L j = false) : alFind D L h = (0, 17) := by
  have := find_range_none.2 (fun (j : Nat) (hj : j < h.toNat) => hn j (by omega))
  rw [alFind, this]
theorem both_ok {k : Nat} (h : (both D L k).2 = 0) : (cntGet D L k).2 = 0 ∧ (cntGet D none k).2 = 0 ∧ (both D L k).1 = (cntGet D L k).1 + (cntGet D none k).1 := by
  revert h
  rw [both]
  split
  · rename_i h; intro h2; exact absurd h2 h
  · rename_i h1
    split
    · rename_i h; intro h2; exact absurd h2 h
    · rename_i h2
      intro _
      exact ⟨by simpa using h1, by simpa using h2, rfl⟩
theorem alFind_cases (D : Dk) (L : Pn) (h : Int) :
    (∃ k : Nat, (k : Int) < h ∧ alFind D L h = ((k : Int), 0) ∧ (cntGet D L k).2 = 0 ∧ (cntGet D none k).2 = 0 ∧ (cntGet D L k).1 = 0 ∧ (cntGet D none k).1 = 0 ∧ ∀ j, j < k → stopsAt D L j = false) ∨ ((alFind D L h).2 ≠ 0 ∧ (alFind D L h).1 = 0) := by
  cases hf : (List.range h.toNat).find? (stopsAt D L) with
  | none => right; rw [alFind, hf]; simp
  | some k =>
    obtain ⟨h1, h2, h3⟩ := find_range.1 hf
    have e : alFind D L h = if (both D L k).2 ≠ 0 then (0, (both D L k).2) else ((k : Int), 0) := by rw [alFind, hf]
    by_cases h4 : (both D L k).2 = 0
    · left
      rw [if_neg (by rw [h4]; simp)] at e
      obtain ⟨a, b, c⟩ := both_ok h4
      have hz : (both D L k).1 = 0 := by
        simp only [stopsAt, Bool.or_eq_true, decide_eq_true_eq] at h2
        rcases h2 with h2 | h2
        · exact absurd h4 h2
        · exact h2
      have i1 := cntGet_le D L k
      have i2 := cntGet_le D none k
      exact ⟨k, by omega, e, a, b, by omega, by omega, h3⟩
    · right
      rw [if_pos h4] at e
      rw [e]
      exact ⟨h4, rfl⟩
end Pn
end Go.Proofs.Ytlajbmmhgflabaa
namespace Go.Proofs.Ytlajbmmhgflabaa
theorem allN_err_congr {α : Type} {f g : Nat → α × Int} {n : Nat} (h : ∀ i, i < n → (f i).2 = (g i).2) : (allN f n).2 = (allN g n).2 := by
  induction n with
  | zero => rfl
  | succ n ih =>
    have h1 := ih (fun i hi => h i (by omega))
    have h2 := h n (by omega)
    have e : ∀ g : Nat → α × Int, (allN g (n + 1)).2 = if (allN g n).2 ≠ 0 then (allN g n).2 else (g n).2 := by
      intro g
      rw [allN]
      split
      · rfl
      · split
        · rfl
        · rename_i h; exact (show (g n).2 = 0 by simpa using h).symm
    rw [e, e, h1, h2]
namespace Pn
variable {D : Dk} {L X : Pn}
theorem used_set {l : List Int} {k : Nat} (hk : k < l.length) (h : l[k] = 0) : usedIn (l.set k 1) = usedIn l + 1 := by
  unfold usedIn
  rw [List.countP_set (h := hk)]
  rw [h]
  simp
theorem alTake_cases (D : Dk) (L : Pn) (h : Int) : (∃ k : Nat, ∃ X, (k : Int) < h ∧ alTake D L h = (X, (k : Int), 0) ∧ cntGet D L k = (0, 0) ∧ cntGet D none k = (0, 0) ∧ cntAdd D L k 1 = (X, 0)) ∨ ((alTake D L h).2.2 ≠ 0 ∧ (alTake D L h).1 = L ∧ (alTake D L h).2.1 = 0) := by
  rcases alFind_cases D L h with ⟨k, h1, h2, h3, h4, h5, h6, _⟩ | ⟨h1, h2⟩
  · by_cases h7 : (cntAdd D L k 1).2 = 0
    · left
      refine ⟨k, (cntAdd D L k 1).1, h1, ?_, Prod.ext h5 h3, Prod.ext h6 h4, Prod.ext rfl h7⟩
      rw [alTake, h2, if_neg (by simp), if_neg (by rw [h7]; simp)]
    · right
      rw [alTake, h2, if_neg (by simp), if_pos h7]
      exact ⟨h7, rfl, rfl⟩
  · right
    rw [alTake, if_pos h1]
    exact ⟨h1, rfl, rfl⟩
theorem alTake_ok {h : Int} {k : Nat} (hD : D.fit = true) (hL : L.Fit) (hh : h ≤ 256) (hk : (k : Int) < h) (h1 : cntGet D L k = (0, 0)) (h2 : cntAdd D L k 1 = (X, 0)) :
    X.Fit ∧ cntGet D X k = (1, 0) ∧ (alUsed D X h).2 = (alUsed D L h).2 ∧ ((alUsed D L h).2 = 0 → (alUsed D X h).1 = (alUsed D L h).1 + 1) ∧ ((alTake D X h).2.2 = 0 → (alTake D X h).2.1 ≠ k) := by
  obtain ⟨_, _, _, _, _, hX, h5, h6, _⟩ := cntAdd_ok hD hL h2
  rw [h1] at h5
  have h5 : cntGet D X k = (1, 0) := h5
  have hn : ¬ (h < 0 ∨ 256 < h) := by omega
  have herr : (cntAll D X h).2 = (cntAll D L h).2 := by
    rw [cntAll, cntAll, if_neg hn, if_neg hn]
    refine allN_err_congr fun i hi => ?_
    by_cases hik : (i : Int) = k
    · rw [hik, h5, h1]
    · rw [h6 _ hik]
  refine ⟨hX, h5, herr, fun h0 => ?_, fun h0 => ?_⟩
  · have h0 : (cntAll D L h).2 = 0 := h0
    obtain ⟨_, _, a, b⟩ := cntAll_ok h0
    obtain ⟨_, _, a', b'⟩ := cntAll_ok (herr.trans h0)
    have hk' : k < (cntAll D L h).1.length := by omega
    have e : (cntAll D X h).1 = (cntAll D L h).1.set k 1 := by
      apply List.ext_getElem?
      intro i
      by_cases hi : (i : Int) < h
      · rw [(b' i hi).2]
        by_cases hik : i = k
        · subst hik
          rw [h5, List.getElem?_set_self hk']
        · rw [List.getElem?_set_ne (Ne.symm hik), (b i hi).2, h6 _ (by omega)]
      · rw [List.getElem?_eq_none (by omega), List.getElem?_eq_none (by rw [List.length_set]; omega)]
    have ez : (cntAll D L h).1[k] = 0 := by
      have := (b k hk).2
      rw [List.getElem?_eq_getElem hk', h1] at this
      injection this
    show usedIn (cntAll D X h).1 = usedIn (cntAll D L h).1 + 1
    rw [e, used_set hk' ez]
  · rcases alTake_cases D X h with ⟨j, Y, _, e, e1, _, _⟩ | ⟨e, _⟩
    · rw [e]
      intro hj
      have hj : (j : Int) = k := hj
      rw [hj, h5] at e1
      injection e1 with e1
      exact absurd e1 (by decide)
    · exact absurd h0 e
theorem alFirst {h : Int} (h0 : (alFind D L h).2 = 0) : ∃ k : Nat, (alFind D L h).1 = k ∧ (k : Int) < h ∧ (8 ≤ k → (alFind D L (max (k : Int) 8)).2 = 17) := by
  rcases alFind_cases D L h with ⟨k, h1, h2, _, _, _, _, h7⟩ | ⟨h1, _⟩
  · refine ⟨k, by rw [h2], h1, fun hk => ?_⟩
    rw [show max (k : Int) 8 = k by omega, alFind_miss (fun j hj => h7 j (by omega))]
  · exact absurd h0 h1
end Pn
end Go.Proofs.Ytlajbmmhgflabaa
