/- Plans: the plain words, and how they stand in memory. Nothing of the program stands here. -/
import Derived.Test.YtlajbmmhgflabaaDevLaw3
import Derived.Test.YtlajbmmhgflabaaOff
set_option linter.unusedVariables false
namespace Go.Proofs.Ytlajbmmhgflabaa
open Go.RowKit Go.Shelf

structure Pn where
  targets : List Int
  data : List (List UInt8)
abbrev pval (L : Pn) (p q : Pl) : Value := .agg #[.slice p.a L.targets.length p.c, .slice q.a L.data.length q.c]
/-- The plan's value stands in memory. -/
structure IsPn (w : World) (L : Pn) (p q : Pl) : Prop where
  targets : Cells w p.a (intCells L.targets)
  data : Cells w q.a (strCells L.data)
  pn : p.a = none → p.c = 0
  qn : q.a = none → q.c = 0
  pc : L.targets.length ≤ p.c
  qc : L.data.length ≤ q.c
  pm : p.c ≤ maxLen
  qm : q.c ≤ maxLen
  ats : ∀ x ∈ L.targets, -9223372036854775808 ≤ x ∧ x ≤ 9223372036854775807
  strs : ∀ x ∈ L.data, x.length ≤ 9223372036854775807
theorem IsPn.below {w w' : World} {L : Pn} {p q : Pl} (h : IsPn w L p q) (hb : Below w.heap.size w w') : IsPn w' L p q :=
  { h with targets := h.targets.below hb, data := h.data.below hb }
theorem isPn_zero (w : World) : IsPn w ⟨[], []⟩ ⟨none, 0⟩ ⟨none, 0⟩ :=
  ⟨.inl rfl, .inl rfl, fun _ => rfl, fun _ => rfl, Nat.le_refl _, Nat.le_refl _, Nat.zero_le _, Nat.zero_le _, fun _ h => (by cases h), fun _ h => (by cases h)⟩
def PnOff (g : Nat) (L : Pn) (p q : Pl) : Prop := Off g p.a L.targets.length ∧ Off g q.a L.data.length
theorem IsPn.off {w : World} {L : Pn} {p q : Pl} (h : IsPn w L p q) {a : Addr} (ho : PnOff a.block L p q) (v : Value) : IsPn (w.setCell a v) L p q :=
  { h with targets := h.targets.off ho.1 (fun e => by rw [List.length_eq_zero_iff.1 e]; rfl) v, data := h.data.off ho.2 (fun e => by rw [List.length_eq_zero_iff.1 e]; rfl) v }
theorem IsPn.apart {w : World} {L : Pn} {p q : Pl} (h : IsPn w L p q) {g : Nat} (hg : w.heap.size ≤ g) : PnOff g L p q :=
  ⟨off_below h.targets (by rw [intCells_length]; exact Nat.le_refl _) hg, off_below h.data (by rw [strCells_length]; exact Nat.le_refl _) hg⟩
/-- The call hands back a plan and a number; what lies below B and not in the plan (L, p, q) lies not in that one. -/
def RetPn (B : Nat) (L : Pn) (p q : Pl) (X : Pn × Int) (e : Ending) (w : World) : Prop :=
  ∃ p' q', e = .returned (.tuple #[pval X.1 p' q', .int .i64 X.2]) ∧ IsPn w X.1 p' q' ∧ ∀ g, g < B → PnOff g L p q → PnOff g X.1 p' q'
def sectorOk (k : Int) : Bool := decide (0 ≤ k) && decide (k < 1024)
namespace Pn
/-- A target's place; -1. -/
def find (L : Pn) (k : Int) : Int := if k ∈ L.targets then ((L.targets.idxOf k : Nat) : Int) else -1
theorem find_hit {L : Pn} {k : Int} {i : Nat} (hi : i < L.targets.length) (h : L.targets[i] = k) (hne : ∀ j (hj : j < L.targets.length), j < i → L.targets[j] ≠ k) : L.find k = i := by
  have hm : k ∈ L.targets := h ▸ List.getElem_mem hi
  rw [find, if_pos hm]
  have h1 := List.idxOf_lt_length_iff.2 hm
  have h2 := List.getElem_idxOf h1
  congr 1
  rcases Nat.lt_trichotomy (L.targets.idxOf k) i with h3 | h3 | h3
  · exact absurd h2 (hne _ h1 h3)
  · exact h3
  · exfalso
    have := List.not_of_lt_findIdx (show i < List.findIdx (· == k) L.targets from h3)
    rw [h] at this
    simp at this
theorem find_miss {L : Pn} {k : Int} (hne : ∀ j (hj : j < L.targets.length), L.targets[j] ≠ k) : L.find k = -1 := by
  rw [find, if_neg]
  intro hm
  obtain ⟨j, hj, e⟩ := List.getElem_of_mem hm
  exact hne j hj e
theorem find_in {L : Pn} {k : Int} (h : k ∈ L.targets) : ∃ i : Nat, ∃ hi : i < L.targets.length, L.find k = i ∧ L.targets[i] = k ∧ L.targets.idxOf k = i := by
  have h1 := List.idxOf_lt_length_iff.2 h
  exact ⟨_, h1, by rw [find, if_pos h], List.getElem_idxOf h1, rfl⟩
theorem find_out {L : Pn} {k : Int} (h : k ∉ L.targets) : L.find k = -1 := by rw [find, if_neg h]
/-- May it be? -/
def Fit (L : Pn) : Prop := L.targets.length = L.data.length ∧ L.targets.length ≤ 24 ∧ (∀ i (h : i < L.targets.length), sectorOk L.targets[i] = true ∧ L.find L.targets[i] = i) ∧ ∀ i (h : i < L.data.length), L.data[i].length = 64
open Classical in
noncomputable def fit (L : Pn) : Bool := decide L.Fit
theorem fit_iff {L : Pn} : L.fit = true ↔ L.Fit := by simp [fit]
theorem fit_no {L : Pn} (h : ¬ L.Fit) : L.fit = false := by simp [fit, h]
def same (L M : Pn) : Bool := decide (L.targets = M.targets) && decide (L.data = M.data)
theorem same_self (L : Pn) : L.same L = true := by simp [same]
def look (D : Dk) (L : Pn) (k : Int) : List UInt8 × Int := if k ∈ L.targets then (L.data.getD (L.targets.idxOf k) [], 0) else D.read k
def set (L : Pn) (k : Int) (s : List UInt8) : Pn × Int :=
  if sectorOk k = false then (L, 10) else if s.length ≠ 64 then (L, 11) else if k ∈ L.targets then (⟨L.targets, L.data.set (L.targets.idxOf k) s⟩, 0)
  else if 24 ≤ L.targets.length then (L, 16) else (⟨L.targets ++ [k], L.data ++ [s]⟩, 0)
def laidOver (b : List UInt8) (o : Int) (s : List UInt8) : List UInt8 × Int := if o < 0 ∨ (b.length : Int) - s.length < o then ([], 10) else (over b o.toNat s, 0)
def patch (D : Dk) (L : Pn) (k o : Int) (s : List UInt8) : Pn × Int :=
  if (look D L k).2 ≠ 0 then (L, (look D L k).2) else if (laidOver (look D L k).1 o s).2 ≠ 0 then (L, (laidOver (look D L k).1 o s).2) else set L k (laidOver (look D L k).1 o s).1
end Pn
end Go.Proofs.Ytlajbmmhgflabaa
