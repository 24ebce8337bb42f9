/- Plans: what is set is what will be there. Nothing of the program stands here. -/
import Derived.Test.YtlajbmmhgflabaaPlanLaw
namespace Go.Proofs.Ytlajbmmhgflabaa
namespace Pn
theorem set_not {L : Pn} {k : Int} {s : List UInt8} (h : (L.set k s).2 ≠ 0) : (L.set k s).1 = L := by
  revert h
  rw [set]
  split
  · intro _; rfl
  · split
    · intro _; rfl
    · split
      · intro h; exact absurd rfl h
      · split
        · intro _; rfl
        · intro h; exact absurd rfl h
/-- What setting makes, where it tells no error. -/
theorem set_ok {L : Pn} {k : Int} {s : List UInt8} (h : (L.set k s).2 = 0) : sectorOk k = true ∧ s.length = 64 ∧
    ((k ∈ L.targets ∧ (L.set k s).1 = ⟨L.targets, L.data.set (L.targets.idxOf k) s⟩) ∨ (k ∉ L.targets ∧ L.targets.length < 24 ∧ (L.set k s).1 = ⟨L.targets ++ [k], L.data ++ [s]⟩)) := by
  revert h
  rw [set]
  split
  · intro h; simp at h
  · rename_i h1
    split
    · intro h; simp at h
    · rename_i h2
      split
      · rename_i h3
        intro _
        exact ⟨by simpa using h1, by simpa using h2, .inl ⟨h3, rfl⟩⟩
      · rename_i h3
        split
        · intro h; simp at h
        · rename_i h4
          intro _
          exact ⟨by simpa using h1, by simpa using h2, .inr ⟨h3, by omega, rfl⟩⟩
theorem find_eq (L M : Pn) (h : L.targets = M.targets) (k : Int) : L.find k = M.find k := by rw [find, find, h]
theorem find_snoc {l : List Int} {k x : Int} {a b : List (List UInt8)} (hx : x ∈ l) : find ⟨l ++ [k], a⟩ x = find ⟨l, b⟩ x := by
  rw [find, find]
  simp only [if_pos (List.mem_append_left [k] hx), if_pos hx]
  rw [List.idxOf_append, if_pos hx]
theorem find_last {l : List Int} {k : Int} {a : List (List UInt8)} (hx : k ∉ l) : find ⟨l ++ [k], a⟩ k = l.length := by
  rw [find]
  simp only [if_pos (List.mem_append_right l (List.mem_singleton.2 rfl))]
  rw [List.idxOf_append, if_neg hx]
  simp
theorem set_fit {L : Pn} (h : L.Fit) (k : Int) (s : List UInt8) : (L.set k s).1.Fit := by
  by_cases h0 : (L.set k s).2 = 0
  · obtain ⟨h1, h2, ⟨h3, e⟩ | ⟨h3, h4, e⟩⟩ := set_ok h0
    · rw [e]
      refine ⟨by simpa using h.1, h.2.1, fun i hi => ?_, fun i hi => ?_⟩
      · have := h.2.2.1 i hi
        exact ⟨this.1, (find_eq _ L rfl _).trans this.2⟩
      · simp only [List.length_set] at hi
        simp only [List.getElem_set]
        split
        · exact h2
        · exact h.2.2.2 i hi
    · rw [e]
      refine ⟨by simpa using h.1, by simp; omega, fun i hi => ?_, fun i hi => ?_⟩
      · simp only [List.length_append, List.length_singleton] at hi
        rcases Nat.lt_or_ge i L.targets.length with hl | hl
        · simp only [List.getElem_append_left hl]
          have := h.2.2.1 i hl
          exact ⟨this.1, (find_snoc (List.getElem_mem hl)).trans this.2⟩
        · obtain rfl : i = L.targets.length := by omega
          simp only [List.getElem_append_right (Nat.le_refl _), Nat.sub_self, List.getElem_singleton]
          exact ⟨h1, find_last h3⟩
      · simp only [List.length_append, List.length_singleton] at hi
        rcases Nat.lt_or_ge i L.data.length with hl | hl
        · simp only [List.getElem_append_left hl]; exact h.2.2.2 i hl
        · obtain rfl : i = L.data.length := by omega
          simp only [List.getElem_append_right (Nat.le_refl _), Nat.sub_self, List.getElem_singleton]; exact h2
  · rw [set_not h0]; exact h
theorem look_set {L : Pn} (h : L.Fit) {k : Int} {s : List UInt8} (h0 : (L.set k s).2 = 0) (D : Dk) : look D (L.set k s).1 k = (s, 0) ∧ ∀ o, o ≠ k → look D (L.set k s).1 o = look D L o := by
  obtain ⟨h1, h2, ⟨h3, e⟩ | ⟨h3, h4, e⟩⟩ := set_ok h0
  · obtain ⟨i, hi, f1, f2, f3⟩ := find_in h3
    have hd : i < L.data.length := by rw [← h.1]; exact hi
    rw [e, f3]
    refine ⟨?_, fun o ho => ?_⟩
    · rw [look]
      simp only [if_pos h3, f3]
      rw [List.getD_eq_getElem?_getD, List.getElem?_set_self hd]
      rfl
    · rw [look, look]
      by_cases hm : o ∈ L.targets
      · obtain ⟨j, hj, g1, g2, g3⟩ := find_in hm
        simp only [if_pos hm, g3]
        have : i ≠ j := by rintro rfl; exact ho (g2.symm.trans f2)
        rw [List.getD_eq_getElem?_getD, List.getD_eq_getElem?_getD, List.getElem?_set_ne this]
      · simp only [if_neg hm]
  · rw [e]
    refine ⟨?_, fun o ho => ?_⟩
    · rw [look]
      simp only [if_pos (List.mem_append_right L.targets (List.mem_singleton.2 rfl))]
      rw [List.idxOf_append, if_neg h3]
      simp [h.1, List.getD_eq_getElem?_getD]
    · rw [look, look]
      by_cases hm : o ∈ L.targets
      · obtain ⟨j, hj, g1, g2, g3⟩ := find_in hm
        simp only [if_pos hm, if_pos (List.mem_append_left [k] hm)]
        rw [List.idxOf_append, if_pos hm, g3, List.getD_eq_getElem?_getD, List.getD_eq_getElem?_getD, List.getElem?_append_left (by rw [← h.1]; exact hj)]
      · have : o ∉ L.targets ++ [k] := by simp [hm, ho]
        simp only [if_neg hm, if_neg this]
end Pn
end Go.Proofs.Ytlajbmmhgflabaa
