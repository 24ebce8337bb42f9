/- Plans: the plain words, and how they stand in memory. Nothing of the program stands here. Plans: what is set is what will be there. Nothing of the program stands here. Plans: two sectors that are set in either order. Nothing of the program stands here. -/
import Derived.Test.YtkiokdphjfkocaaDevLaw
import Derived.Test.YtkiokdphjfkocaaOff
set_option linter.unusedVariables false
namespace Go.Proofs.Ytkiokdphjfkocaa
open Go.RowKit Go.Shelf

structure Pn where
  targets : List Int
  data : List (List UInt8)
abbrev pval (L : Pn) (p q : Pl) : Value := .agg #[.slice p.a L.targets.length p.c, .slice q.a L.data.length q.c]
/-- The plan's value stands in memory. -/
structure IsPn (w : World) (L : Pn) (p q : Pl) : Prop where
  targets : Cells w p.a (intCells L.targets)
  data : Cells w q.a (strCells L.data)
  pn : p.a = none → p.c = 0
  qn : q.a = none → q.c = 0
  pc : L.targets.length ≤ p.c
  qc : L.data.length ≤ q.c
  pm : p.c ≤ maxLen
  qm : q.c ≤ maxLen
  ats : ∀ x ∈ L.targets, -9223372036854775808 ≤ x ∧ x ≤ 9223372036854775807
  strs : ∀ x ∈ L.data, x.length ≤ 9223372036854775807
theorem IsPn.below {w w' : World} {L : Pn} {p q : Pl} (h : IsPn w L p q) (hb : Below w.heap.size w w') : IsPn w' L p q :=
  { h with targets := h.targets.below hb, data := h.data.below hb }
theorem isPn_zero (w : World) : IsPn w ⟨[], []⟩ ⟨none, 0⟩ ⟨none, 0⟩ :=
  ⟨.inl rfl, .inl rfl, fun _ => rfl, fun _ => rfl, Nat.le_refl _, Nat.le_refl _, Nat.zero_le _, Nat.zero_le _, fun _ h => (by cases h), fun _ h => (by cases h)⟩
def PnOff (g : Nat) (L : Pn) (p q : Pl) : Prop := Off g p.a L.targets.length ∧ Off g q.a L.data.length
theorem IsPn.off {w : World} {L : Pn} {p q : Pl} (h : IsPn w L p q) {a : Addr} (ho : PnOff a.block L p q) (v : Value) : IsPn (w.setCell a v) L p q :=
  { h with targets := h.targets.off ho.1 (fun e => by rw [List.length_eq_zero_iff.1 e]; rfl) v, data := h.data.off ho.2 (fun e => by rw [List.length_eq_zero_iff.1 e]; rfl) v }
theorem IsPn.apart {w : World} {L : Pn} {p q : Pl} (h : IsPn w L p q) {g : Nat} (hg : w.heap.size ≤ g) : PnOff g L p q :=
  ⟨off_below h.targets (by rw [intCells_length]; exact Nat.le_refl _) hg, off_below h.data (by rw [strCells_length]; exact Nat.le_refl _) hg⟩
/-- The call hands back a plan and a number; what lies below B and not in the plan (L, p, q) lies not in that one. -/
def RetPn (B : Nat) (L : Pn) (p q : Pl) (X : Pn × Int) (e : Ending) (w : World) : Prop :=
  ∃ p' q', e = .returned (.tuple #[pval X.1 p' q', .int .i64 X.2]) ∧ IsPn w X.1 p' q' ∧ ∀ g, g < B → PnOff g L p q → PnOff g X.1 p' q'
def sectorOk (k : Int) : Bool := decide (0 ≤ k) && decide (k < 1024)
namespace Pn
/-- A target's place; -1. -/
def find (L : Pn) (k : Int) : Int := if k ∈ L.targets then ((L.targets.idxOf k : Nat) : Int) else -1
theorem find_hit {L : Pn} {k : Int} {i : Nat} (hi : i < L.targets.length) (h : L.targets[i] = k) (hne : ∀ j (hj : j < L.targets.length), j < i → L.targets[j] ≠ k) : L.find k = i := by
  have hm : k ∈ L.targets := h ▸ List.getElem_mem hi
  rw [find, if_pos hm]
  have h1 := List.idxOf_lt_length_iff.2 hm
  have h2 := List.getElem_idxOf h1
  congr 1
  rcases Nat.lt_trichotomy (L.targets.idxOf k) i with h3 | h3 | h3
  · exact absurd h2 (hne _ h1 h3)
  · exact h3
  · exfalso
    have := List.not_of_lt_findIdx (show i < List.findIdx (· == k) L.targets from h3)
    rw [h] at this
    simp at this
theorem find_miss {L : Pn} {k : Int} (hne : ∀ j (hj : j < L.targets.length), L.targets[j] ≠ k) : L.find k = -1 := by
  rw [find, if_neg]
  intro hm
  obtain ⟨j, hj, e⟩ := List.getElem_of_mem hm
  exact hne j hj e
theorem find_in {L : Pn} {k : Int} (h : k ∈ L.targets) : ∃ i : Nat, ∃ hi : i < L.targets.length, L.find k = i ∧ L.targets[i] = k ∧ L.targets.idxOf k = i := by
  have h1 := List.idxOf_lt_length_iff.2 h
  exact ⟨_, h1, by rw [find, if_pos h], List.getElem_idxOf h1, rfl⟩
theorem find_out {L : Pn} {k : Int} (h : k ∉ L.targets) : L.find k = -1 := by rw [find, if_neg h]
/-- May it be? -/
def Fit (L : Pn) : Prop := L.targets.length = L.data.length ∧ L.targets.length ≤ 24 ∧ (∀ i (h : i < L.targets.length), sectorOk L.targets[i] = true ∧ L.find L.targets[i] = i) ∧ ∀ i (h : i < L.data.length), L.data[i].length = 64
open Classical in
noncomputable def fit (L : Pn) : Bool := decide L.Fit
theorem fit_iff {L : Pn} : L.fit = true ↔ L.Fit := by simp [fit]
theorem fit_no {L : Pn} (h : ¬ L.Fit) : L.fit = false := by simp [fit, h]
def same (L M : Pn) : Bool := decide (L.targets = M.targets) && decide (L.data = M.data)
theorem same_self (L : Pn) : L.same L = true := by simp [same]
def look (D : Dk) (L : Pn) (k : Int) : List UInt8 × Int := if k ∈ L.targets then (L.data.getD (L.targets.idxOf k) [], 0) else D.read k
def set (L : Pn) (k : Int) (s : List UInt8) : Pn × Int :=
  if sectorOk k = false then (L, 10) else if s.length ≠ 64 then (L, 11) else if k ∈ L.targets then (⟨L.targets, L.data.set (L.targets.idxOf k) s⟩, 0)
  else if 24 ≤ L.targets.length then (L, 16) else (⟨L.targets ++ [k], L.data ++ [s]⟩, 0)
def laidOver (b : List UInt8) (o : Int) (s : List UInt8) : List UInt8 × Int := if o < 0 ∨ (b.length : Int) - s.length < o then ([], 10) else (over b o.toNat s, 0)
def patch (D : Dk) (L : Pn) (k o : Int) (s : List UInt8) : Pn × Int :=
  if (look D L k).2 ≠ 0 then (L, (look D L k).2) else if (laidOver (look D L k).1 o s).2 ≠ 0 then (L, (laidOver (look D L k).1 o s).2) else set L k (laidOver (look D L k).1 o s).1
end Pn
end Go.Proofs.Ytkiokdphjfkocaa
namespace Go.Proofs.Ytkiokdphjfkocaa
namespace Pn
theorem set_not {L : Pn} {k : Int} {s : List UInt8} (h : (L.set k s).2 ≠ 0) : (L.set k s).1 = L := by
  revert h
  rw [set]
  split
  · intro _; rfl
  · split
    · intro _; rfl
    · split
      · intro h; exact absurd rfl h
      · split
        · intro _; rfl
        · intro h; exact absurd rfl h
/-- What setting makes, where it tells no error. -/
theorem set_ok {L : Pn} {k : Int} {s : List UInt8} (h : (L.set k s).2 = 0) : sectorOk k = true ∧ s.length = 64 ∧
    ((k ∈ L.targets ∧ (L.set k s).1 = ⟨L.targets, L.data.set (L.targets.idxOf k) s⟩) ∨ (k ∉ L.targets ∧ L.targets.length < 24 ∧ (L.set k s).1 = ⟨L.targets ++ [k], L.data ++ [s]⟩)) := by
  revert h
  rw [set]
  split
  · intro h; simp at h
  · rename_i h1
    split
    · intro h; simp at h
    · rename_i h2
      split
      · rename_i h3
        intro _
        exact ⟨by simpa using h1, by simpa using h2, .inl ⟨h3, rfl⟩⟩
      · rename_i h3
        split
        · intro h; simp at h
        · rename_i h4
          intro _
          exact ⟨by simpa using h1, by simpa using h2, .inr ⟨h3, by omega, rfl⟩⟩
theorem find_eq (L M : Pn) (h : L.targets = M.targets) (k : Int) : L.find k = M.find k := by rw [find, find, h]
theorem find_snoc {l : List Int} {k x : Int} {a b : List (List UInt8)} (hx : x ∈ l) : find ⟨l ++ [k], a⟩ x = find ⟨l, b⟩ x := by
  rw [find, find]
  simp only [if_pos (List.mem_append_left [k] hx), if_pos hx]
  rw [List.idxOf_append, if_pos hx]
theorem find_last {l : List Int} {k : Int} {a : List (List UInt8)} (hx : k ∉ l) : find ⟨l ++ [k], a⟩ k = l.length := by
  rw [find]
  simp only [if_pos (List.mem_append_right l (List.mem_singleton.2 rfl))]
  rw [List.idxOf_append, if_neg hx]
  simp
theorem set_fit {L : Pn} (h : L.Fit) (k : Int) (s : List UInt8) : (L.set k s).1.Fit := by
  by_cases h0 : (L.set k s).2 = 0
  · obtain ⟨h1, h2, ⟨h3, e⟩ | ⟨h3, h4, e⟩⟩ := set_ok h0
    · rw [e]
      refine ⟨by simpa using h.1, h.2.1, fun i hi => ?_, fun i hi => ?_⟩
      · have := h.2.2.1 i hi
        exact ⟨this.1, (find_eq _ L rfl _).trans this.2⟩
      · simp only [List.length_set] at hi
        simp only [List.getElem_set]
        split
        · exact h2
        · exact h.2.2.2 i hi
    · rw [e]
      refine ⟨by simpa using h.1, by simp; omega, fun i hi => ?_, fun i hi => ?_⟩
      · simp only [List.length_append, List.length_singleton] at hi
        rcases Nat.lt_or_ge i L.targets.length with hl | hl
        · simp only [List.getElem_append_left hl]
          have := h.2.2.1 i hl
          exact ⟨this.1, (find_snoc (List.getElem_mem hl)).trans this.2⟩
        · obtain rfl : i = L.targets.length := by omega
          simp only [List.getElem_append_right (Nat.le_refl _), Nat.sub_self, List.getElem_singleton]
          exact ⟨h1, find_last h3⟩
      · simp only [List.length_append, List.length_singleton] at hi
        rcases Nat.lt_or_ge i L.data.length with hl | hl
        · simp only [List.getElem_append_left hl]; exact h.2.2.2 i hl
        · obtain rfl : i = L.data.length := by omega
          simp only [List.getElem_append_right (Nat.le_refl _), Nat.sub_self, List.getElem_singleton]; exact h2
  · rw [set_not h0]; exact h
theorem look_set {L : Pn} (h : L.Fit) {k : Int} {s : List UInt8} (h0 : (L.set k s).2 = 0) (D : Dk) : look D (L.set k s).1 k = (s, 0) ∧ ∀ o, o ≠ k → look D (L.set k s).1 o = look D L o := by
  obtain ⟨h1, h2, ⟨h3, e⟩ | ⟨h3, h4, e⟩⟩ := set_ok h0
  · obtain ⟨i, hi, f1, f2, f3⟩ := find_in h3
    have hd : i < L.data.length := by rw [← h.1]; exact hi
    rw [e, f3]
    refine ⟨?_, fun o ho => ?_⟩
    · rw [look]
      simp only [if_pos h3, f3]
      rw [List.getD_eq_getElem?_getD, List.getElem?_set_self hd]
      rfl
    · rw [look, look]
      by_cases hm : o ∈ L.targets
      · obtain ⟨j, hj, g1, g2, g3⟩ := find_in hm
        simp only [if_pos hm, g3]
        have : i ≠ j := by rintro rfl; exact ho (g2.symm.trans f2)
        rw [List.getD_eq_getElem?_getD, List.getD_eq_getElem?_getD, List.getElem?_set_ne this]
      · simp only [if_neg hm]
  · rw [e]
    refine ⟨?_, fun o ho => ?_⟩
    · rw [look]
      simp only [if_pos (List.mem_append_right L.targets (List.mem_singleton.2 rfl))]
      rw [List.idxOf_append, if_neg h3]
      simp [h.1, List.getD_eq_getElem?_getD]
    · rw [look, look]
      by_cases hm : o ∈ L.targets
      · obtain ⟨j, hj, g1, g2, g3⟩ := find_in hm
        simp only [if_pos hm, if_pos (List.mem_append_left [k] hm)]
        rw [List.idxOf_append, if_pos hm, g3, List.getD_eq_getElem?_getD, List.getD_eq_getElem?_getD, List.getElem?_append_left (by rw [← h.1]; exact hj)]
      · have : o ∉ L.targets ++ [k] := by simp [hm, ho]
        simp only [if_neg hm, if_neg this]
end Pn
end Go.Proofs.Ytkiokdphjfkocaa
namespace Go.Proofs.Ytkiokdphjfkocaa
namespace Pn
/-- Which error setting tells hangs on how many there are, and whether it is there. -/
theorem set_err {L : Pn} {k : Int} {s : List UInt8} (h1 : sectorOk k = true) (h2 : s.length = 64) : (L.set k s).2 = if k ∈ L.targets then 0 else if 24 ≤ L.targets.length then 16 else 0 := by
  rw [set, if_neg (by rw [h1]; simp), if_neg (by omega)]
  split
  · rfl
  · split <;> rfl
theorem set_mem {L X : Pn} {k : Int} {s : List UInt8} (hX : L.set k s = (X, 0)) (x : Int) : x ∈ X.targets ↔ x ∈ L.targets ∨ x = k := by
  obtain ⟨_, _, ⟨h3, e⟩ | ⟨h3, _, e⟩⟩ := set_ok (L := L) (k := k) (s := s) (by rw [hX])
  · rw [hX] at e
    have e : X = _ := e
    rw [e]
    constructor
    · exact .inl
    · rintro (h | rfl)
      · exact h
      · exact h3
  · rw [hX] at e
    have e : X = _ := e
    rw [e]
    simp
theorem set_count {L X : Pn} {k : Int} {s : List UInt8} (hX : L.set k s = (X, 0)) : X.targets.length = if k ∈ L.targets then L.targets.length else L.targets.length + 1 := by
  obtain ⟨_, _, ⟨h3, e⟩ | ⟨h3, _, e⟩⟩ := set_ok (L := L) (k := k) (s := s) (by rw [hX])
  · rw [hX] at e
    have e : X = _ := e
    rw [e, if_pos h3]
  · rw [hX] at e
    have e : X = _ := e
    rw [e, if_neg h3]
    simp
theorem set_swap {L X Y : Pn} {k l : Int} {s t : List UInt8} (hf : L.Fit) (hkl : k ≠ l) (hX : L.set k s = (X, 0)) (hY : L.set l t = (Y, 0)) : ((Y.set k s).1, (X.set l t).2) = Y.set k s := by
  obtain ⟨a1, a2, _⟩ := set_ok (L := L) (k := k) (s := s) (by rw [hX])
  obtain ⟨b1, b2, _⟩ := set_ok (L := L) (k := l) (s := t) (by rw [hY])
  refine Prod.ext rfl ?_
  show (X.set l t).2 = (Y.set k s).2
  rw [set_err b1 b2, set_err a1 a2]
  have m1 := set_mem hX l
  have m2 := set_mem hY k
  have c1 := set_count hX
  have c2 := set_count hY
  by_cases u : k ∈ L.targets <;> by_cases v : l ∈ L.targets
  · rw [if_pos (m1.2 (.inl v)), if_pos (m2.2 (.inl u))]
  · rw [if_pos (m2.2 (.inl u)), if_neg (fun h => by rcases m1.1 h with h | h; (exact v h); exact hkl h.symm)]
    rw [if_pos u] at c1
    rw [if_neg v] at c2
    have := hf.2.1
    have hy := set_fit hf l t
    rw [hY] at hy
    have := hy.2.1
    simp only at this
    rw [if_neg (by omega)]
  · rw [if_pos (m1.2 (.inl v)), if_neg (fun h => by rcases m2.1 h with h | h; (exact u h); exact hkl h)]
    rw [if_neg u] at c1
    rw [if_pos v] at c2
    have hx := set_fit hf k s
    rw [hX] at hx
    have := hx.2.1
    simp only at this
    rw [if_neg (by omega)]
  · have k1 : l ∉ X.targets := fun h => by rcases m1.1 h with h | h; (exact v h); exact hkl h.symm
    have k2 : k ∉ Y.targets := fun h => by rcases m2.1 h with h | h; (exact u h); exact hkl h
    rw [if_neg k1, if_neg k2]
    rw [if_neg u] at c1
    rw [if_neg v] at c2
    rw [c1, c2]
theorem look_swap {L X Y U Z : Pn} {k l : Int} {s t : List UInt8} (hf : L.Fit) (hkl : k ≠ l) (hX : L.set k s = (X, 0)) (hY : L.set l t = (Y, 0)) (hU : X.set l t = (U, 0)) (hZ : Y.set k s = (Z, 0)) (D : Dk) (o : Int) : look D U o = look D Z o := by
  have fx := set_fit hf k s
  have fy := set_fit hf l t
  have lx := look_set hf (k := k) (s := s) (by rw [hX]) D
  have ly := look_set hf (k := l) (s := t) (by rw [hY]) D
  rw [hX] at fx lx
  rw [hY] at fy ly
  have lu := look_set fx (k := l) (s := t) (by rw [hU]) D
  have lz := look_set fy (k := k) (s := s) (by rw [hZ]) D
  rw [hU] at lu
  rw [hZ] at lz
  obtain ⟨lx1, lx2⟩ : look D X k = (s, 0) ∧ ∀ o, o ≠ k → look D X o = look D L o := lx
  obtain ⟨ly1, ly2⟩ : look D Y l = (t, 0) ∧ ∀ o, o ≠ l → look D Y o = look D L o := ly
  obtain ⟨lu1, lu2⟩ : look D U l = (t, 0) ∧ ∀ o, o ≠ l → look D U o = look D X o := lu
  obtain ⟨lz1, lz2⟩ : look D Z k = (s, 0) ∧ ∀ o, o ≠ k → look D Z o = look D Y o := lz
  by_cases h1 : o = l
  · subst h1
    rw [lu1, lz2 o (Ne.symm hkl), ly1]
  · rw [lu2 o h1]
    by_cases h2 : o = k
    · subst h2
      rw [lx1, lz1]
    · rw [lx2 o h2, lz2 o h2, ly2 o h1]
end Pn
end Go.Proofs.Ytkiokdphjfkocaa
