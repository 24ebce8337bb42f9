/- Transactions as sectors, as the document walks: the plain laws. Nothing of the program stands here. -/
import Derived.Test.YtkiokdphjfkocaaTxnLaw
set_option linter.unusedVariables false
namespace Go.Proofs.Ytkiokdphjfkocaa
/-- The rows of targets that are full behind so many of them, and what stands in the next one. -/
def wrSt (l : List Int) (i : Nat) : List (List UInt8) × List UInt8 :=
  if i = l.length then (idxRows l, []) else if i < 16 then ([], nums (l.take i)) else ([pad64 (nums (l.take 16))], nums ((l.take i).drop 16))
theorem wrSt_zero {l : List Int} (h : l ≠ []) : wrSt l 0 = ([], []) := by
  have := List.length_pos_iff.2 h
  unfold wrSt
  rw [if_neg (by omega), if_pos (by omega)]; rfl
theorem wrSt_done (l : List Int) : wrSt l l.length = (idxRows l, []) := by unfold wrSt; rw [if_pos rfl]
theorem nums_take_succ (l : List Int) (i : Nat) (h : i < l.length) : nums (l.take (i + 1)) = nums (l.take i) ++ be 4 l[i].toNat := by
  rw [List.take_add_one, nums_append, List.getElem?_eq_getElem h]; simp [nums]
theorem wrSt_next {l : List Int} {i : Nat} (h : i < l.length) (h24 : l.length ≤ 24) :
    wrSt l (i + 1) = if i + 1 = l.length ∨ i % 16 = 15 then ((wrSt l i).1 ++ [pad64 ((wrSt l i).2 ++ be 4 l[i].toNat)], []) else ((wrSt l i).1, (wrSt l i).2 ++ be 4 l[i].toNat) := by
  have hs : wrSt l i = if i < 16 then ([], nums (l.take i)) else ([pad64 (nums (l.take 16))], nums ((l.take i).drop 16)) := by unfold wrSt; rw [if_neg (by omega)]
  have ht := nums_take_succ l i h
  have hd : 16 ≤ i → nums ((l.take (i + 1)).drop 16) = nums ((l.take i).drop 16) ++ be 4 l[i].toNat := fun h16 => by
    rw [List.take_add_one, List.drop_append_of_le_length (by rw [List.length_take]; omega), nums_append, List.getElem?_eq_getElem h]; simp [nums]
  rw [hs]
  by_cases h1 : i + 1 = l.length
  · rw [if_pos (.inl h1)]
    have e : wrSt l (i + 1) = (idxRows l, []) := by rw [h1]; exact wrSt_done l
    rw [e]
    unfold idxRows
    by_cases h2 : i < 16
    · rw [if_pos (by omega), if_pos h2]
      simp only [List.nil_append]
      rw [← ht, List.take_of_length_le (by omega)]
    · rw [if_neg (by omega), if_neg h2]
      simp only [List.singleton_append]
      rw [← hd (by omega), show List.take (i + 1) l = l from List.take_of_length_le (by omega)]
  · have e : wrSt l (i + 1) = if i + 1 < 16 then ([], nums (l.take (i + 1))) else ([pad64 (nums (l.take 16))], nums ((l.take (i + 1)).drop 16)) := by unfold wrSt; rw [if_neg h1]
    rw [e]
    by_cases h3 : i < 15
    · rw [if_pos (by omega), if_neg (by omega), if_pos (by omega), ht]
    · by_cases h4 : i = 15
      · rw [if_neg (by omega), if_pos (.inr (by omega)), if_pos (by omega)]
        simp only [List.nil_append]
        rw [← ht]
        subst h4
        rw [show ((l.take (15 + 1)).drop 16) = [] by rw [List.drop_eq_nil_iff, List.length_take]; omega]
        rfl
      · rw [if_neg (by omega), if_neg (by omega), if_neg (by omega), hd (by omega)]
theorem wrSt_len {l : List Int} {i : Nat} (h : i < l.length) (h24 : l.length ≤ 24) : (wrSt l i).2.length ≤ 60 ∧ (wrSt l i).1.length ≤ 1 := by
  unfold wrSt
  rw [if_neg (by omega)]
  split
  · simp only [nums_length, List.length_take, List.length_nil]; omega
  · simp only [nums_length, List.length_take, List.length_drop, List.length_singleton]; omega
/-! ### Reading -/
theorem flat_cut {l : List (List UInt8)} (h : ∀ s ∈ l, s.length = 64) {a b : Nat} (ha : a < l.length) (hb : b + 4 ≤ 64) : cut l.flatten (64 * a + b) 4 = cut l[a] b 4 := by
  apply List.ext_getElem?
  intro k
  rw [cut_get, cut_get]
  split
  · rw [Nat.add_assoc, flat_get l a (b + k) h ha (by omega)]
  · rfl
theorem crcMore_flat {s : Nat} (hs : s < 4294967296) (l : List (List UInt8)) (i : Nat) (h : i < l.length) : crcMore (crcMore s (l.take i).flatten) l[i] = crcMore s (l.take (i + 1)).flatten := by
  rw [crcMore_append hs, List.take_succ_eq_append_getElem h, List.flatten_append]; simp
theorem body_drop (l : List (List UInt8)) (n : Nat) : (l.take n).drop 1 = (l.drop 1).take (n - 1) := by rw [List.drop_take]
/-- How much some sectors weigh. -/
def tot (l : List (List UInt8)) : Nat := (l.map fun s => s.length + 1).sum
theorem tot_take {l : List (List UInt8)} {i : Nat} (h : i < l.length) : tot (l.take (i + 1)) = tot (l.take i) + (l[i].length + 1) := by
  unfold tot
  rw [List.take_succ_eq_append_getElem h, List.map_append, List.sum_append]; simp
theorem tot_le {l : List (List UInt8)} {s : List UInt8} (h : s ∈ l) : s.length < tot l := by
  induction l with
  | nil => cases h
  | cons a l ih =>
    simp only [tot, List.map_cons, List.sum_cons] at ih ⊢
    rcases List.mem_cons.1 h with rfl | h
    · omega
    · have := ih h; omega
theorem tot_count (l : List (List UInt8)) : l.length ≤ tot l := by
  induction l with
  | nil => simp
  | cons a l ih => simp only [tot, List.map_cons, List.sum_cons, List.length_cons] at ih ⊢; omega
theorem write_len (t : Tx) : t.write.1.length ≤ 27 := by
  unfold Tx.write
  split
  · rename_i h
    show t.rows.length ≤ 27
    rw [Tx.rows_length h]
    have := h.1.2.1
    unfold txSize; split <;> omega
  · exact Nat.zero_le _
theorem read_zero {l : List (List UInt8)} (h : (txRead l).2 ≠ 0) : (txRead l).1 = Tx.zero := by
  unfold txRead at h ⊢
  split
  · rfl
  split
  · rfl
  split
  · rfl
  split
  · rfl
  split
  · rfl
  rename_i h1 h2 h3 h4 h5
  rw [if_neg h1, if_neg h2, if_neg h3, if_neg h4, if_neg h5] at h
  split
  · rename_i h6; rw [if_pos h6] at h; exact absurd rfl h
  · rfl
theorem read_len (l : List (List UInt8)) : (txRead l).1.plan.targets.length ≤ 24 ∧ (txRead l).1.plan.data.length ≤ 24 := by
  by_cases h : (txRead l).2 = 0
  · obtain ⟨_, _, _, _, h1, _⟩ := read_ok h
    have := h1.1.1
    have := h1.1.2.1
    omega
  · rw [read_zero h]; exact ⟨Nat.zero_le _, Nat.zero_le _⟩
theorem read_seq (l : List (List UInt8)) : (txRead l).1.seq < 18446744073709551616 := by
  by_cases h : (txRead l).2 = 0
  · obtain ⟨_, _, _, h1, _⟩ := read_ok h
    rw [h1]
    have h2 := un_lt (((l.headD []).drop 4).take 8)
    have h3 : 256 ^ (((l.headD []).drop 4).take 8).length ≤ 256 ^ 8 := Nat.pow_le_pow_right (by omega) (by rw [List.length_take]; omega)
    exact Nat.lt_of_lt_of_le h2 (Nat.le_trans h3 (by decide))
  · rw [read_zero h]; exact (by decide : (0 : Nat) < 18446744073709551616)
end Go.Proofs.Ytkiokdphjfkocaa
