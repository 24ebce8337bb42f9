/- A plan laid on a device: the plain words and laws. Nothing of the program stands here. -/
import Derived.Test.YtkiokdphjfkocaaPlanLaw
namespace Go.Proofs.Ytkiokdphjfkocaa
namespace Dk
/-- Sectors written in order; the first error ends it. -/
def layIn : List (Int × List UInt8) → Dk → Dk × Int
  | [], D => (D, 0)
  | x :: l, D => if (D.write x.1 x.2).2 ≠ 0 then D.write x.1 x.2 else layIn l (D.write x.1 x.2).1
theorem write_zero {D : Dk} {k : Int} {s : List UInt8} : (D.write k s).2 = 0 → (D.write k s).1 = D.put k s ∧ D.off = false ∧ D.there k = true ∧ k ∉ D.bad ∧ s.length = 64 ∧ D.cache.length < 4096 := by
  rw [write]
  split
  · intro h; simp at h
  split
  · intro h; simp at h
  split
  · intro h; simp at h
  split
  · intro h; simp at h
  split
  · intro h; simp at h
  split
  · intro h; simp at h
  · rename_i h1 h2 h3 h4 h5 h6
    intro _
    exact ⟨rfl, by simpa using h1, by simpa using h2, h5, by omega, by omega⟩
theorem layIn_ok :
    ∀ (l : List (Int × List UInt8)) (D E : Dk), (l.map (·.1)).Nodup → layIn l D = (E, 0) → (∀ x ∈ l, E.read x.1 = (x.2, 0)) ∧ ∀ k, (∀ x ∈ l, x.1 ≠ k) → E.read k = D.read k := by
  intro l
  induction l with
  | nil => intro D E _ h; injection h with h _; subst h; exact ⟨fun x hx => (by cases hx), fun k _ => rfl⟩
  | cons a l ih =>
    intro D E hn h
    simp only [List.map_cons, List.nodup_cons] at hn
    rw [layIn] at h
    split at h
    · rename_i h1; rw [h] at h1; exact absurd rfl h1
    · rename_i h1
      obtain ⟨e, h2, h3, h4, _⟩ := write_zero (D := D) (k := a.1) (s := a.2) (by simpa using h1)
      rw [e] at h
      obtain ⟨i1, i2⟩ := ih _ _ hn.2 h
      have hal : ∀ x ∈ l, x.1 ≠ a.1 := fun x hx he => hn.1 (List.mem_map.2 ⟨x, hx, he⟩)
      refine ⟨fun x hx => ?_, fun k hk => ?_⟩
      · rcases List.mem_cons.1 hx with rfl | hx
        · rw [i2 _ hal]; exact put_read_same h2 h3 h4
        · exact i1 x hx
      · rw [i2 k (fun x hx => hk x (List.mem_cons_of_mem _ hx))]
        obtain ⟨p1, p2⟩ := put_read_other D a.1 k a.2
        exact Prod.ext (p2 (Ne.symm (hk a List.mem_cons_self))) p1
end Dk
namespace Pn
def lay (D : Dk) (L : Pn) : Dk × Int := Dk.layIn (L.targets.zip L.data) D
theorem Fit.nodup {L : Pn} (h : L.Fit) : L.targets.Nodup := by
  rw [List.nodup_iff_pairwise_ne, List.pairwise_iff_getElem]
  intro i j hi hj hij e
  have h1 := (h.2.2.1 i hi).2
  have h2 := (h.2.2.1 j hj).2
  rw [e] at h1
  omega
/-- Behind a plan that was laid each sector is what it was to be. -/
theorem lay_reads {D E : Dk} {L : Pn} (hL : L.Fit) (h : lay D L = (E, 0)) (k : Int) : E.read k = look D L k := by
  have hm : (L.targets.zip L.data).map (·.1) = L.targets := by
    rw [List.map_fst_zip]; exact Nat.le_of_eq hL.1
  obtain ⟨h1, h2⟩ := Dk.layIn_ok _ D E (by rw [hm]; exact hL.nodup) h
  rw [look]
  split
  · rename_i hk
    have hi := List.idxOf_lt_length_iff.2 hk
    have hd : L.targets.idxOf k < L.data.length := by have := hL.1; omega
    have hmem : (L.targets[L.targets.idxOf k], L.data[L.targets.idxOf k]) ∈ L.targets.zip L.data := by
      have hz : L.targets.idxOf k < (L.targets.zip L.data).length := by rw [List.length_zip]; omega
      have := List.getElem_mem hz
      rwa [List.getElem_zip] at this
    have := h1 _ hmem
    simp only [List.getElem_idxOf] at this
    rw [this, List.getD_eq_getElem?_getD, List.getElem?_eq_getElem hd]
    rfl
  · rename_i hk
    refine h2 k fun x hx e => hk ?_
    have : x.1 ∈ (L.targets.zip L.data).map (·.1) := List.mem_map.2 ⟨x, hx, rfl⟩
    rw [hm] at this
    rw [← e]; exact this
end Pn
end Go.Proofs.Ytkiokdphjfkocaa
