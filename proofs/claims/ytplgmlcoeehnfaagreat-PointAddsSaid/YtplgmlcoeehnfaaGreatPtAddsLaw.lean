/- Counts that are added to in place: plain laws, and a row of numbers in memory. -/
import Derived.Test.YtplgmlcoeehnfaaGreatPtShareLaw
import Derived.Test.YtplgmlcoeehnfaaGreatPtMem
namespace Go.Proofs.YtplgmlcoeehnfaaGreat
open Go.RowKit Go.Shelf
def bump (b : Int) (U l : List Int) : List Int := l.foldl (fun U k => U.set k.toNat (U.getD k.toNat 0 + b)) U
theorem bump_nil (b : Int) (U : List Int) : bump b U [] = U := rfl
theorem bump_snoc (b : Int) (U l : List Int) (k : Int) : bump b U (l ++ [k]) = (bump b U l).set k.toNat ((bump b U l).getD k.toNat 0 + b) := by unfold bump; rw [List.foldl_append]; rfl
theorem bump_next (b : Int) (U l : List Int) (i : Nat) (h : i < l.length) : bump b U (l.take (i + 1)) = (bump b U (l.take i)).set l[i].toNat ((bump b U (l.take i)).getD l[i].toNat 0 + b) := by
  rw [List.take_succ_eq_append_getElem h, bump_snoc]
theorem bump_length (b : Int) : ∀ (l U : List Int), (bump b U l).length = U.length := by
  intro l
  induction l with
  | nil => intro U; rfl
  | cons k l ih => intro U; exact (ih _).trans (by rw [List.length_set])
theorem bump_get (b : Int) : ∀ (l U : List Int), (∀ k ∈ l, 0 ≤ k ∧ k < U.length) → ∀ j : Nat, (bump b U l)[j]? = U[j]?.map fun x => x + b * Pn.times j l := by
  intro l
  induction l with
  | nil => intro U _ j; rw [bump_nil, Pn.times_nil, Int.mul_zero]; simp
  | cons k l ih =>
    intro U h j
    have hk := h k List.mem_cons_self
    have h' : ∀ x ∈ l, 0 ≤ x ∧ x < ((U.set k.toNat (U.getD k.toNat 0 + b)).length : Int) := fun x hx => by rw [List.length_set]; exact h x (List.mem_cons_of_mem _ hx)
    have e := ih _ h' j
    rw [show bump b U (k :: l) = bump b (U.set k.toNat (U.getD k.toNat 0 + b)) l from rfl, e, List.getElem?_set, Pn.times_cons]
    by_cases hj : k.toNat = j
    · have hkj : k = (j : Int) := by omega
      have hlt : j < U.length := by omega
      rw [if_pos hj, if_pos (by omega), if_pos hkj, hj, List.getD_eq_getElem?_getD, List.getElem?_eq_getElem hlt]
      simp only [Option.map_some, Option.getD_some, Option.some.injEq]
      rw [Int.mul_add]
      omega
    · have hkj : ¬ k = (j : Int) := by omega
      rw [if_neg hj, if_neg hkj, Int.add_zero]
/-- All that the counts are in the end. -/
theorem bump_all {b : Int} {U V l : List Int} (hl : U.length = V.length) (hk : ∀ k ∈ l, 0 ≤ k ∧ k < U.length) (h : ∀ j : Nat, j < U.length → V.getD j 0 = U.getD j 0 + b * Pn.times j l) : bump b U l = V := by
  apply List.ext_getElem?
  intro j
  rw [bump_get b l U hk j]
  by_cases hj : j < U.length
  · have := h j hj
    rw [List.getD_eq_getElem?_getD, List.getD_eq_getElem?_getD, List.getElem?_eq_getElem hj, List.getElem?_eq_getElem (by omega)] at this
    rw [List.getElem?_eq_getElem hj, List.getElem?_eq_getElem (by omega)]
    simp only [Option.map_some, Option.getD_some] at this ⊢
    rw [this]
  · rw [List.getElem?_eq_none (by omega), List.getElem?_eq_none (by omega)]
    rfl
theorem bump_small {b : Int} {U l : List Int} (hb : -128 ≤ b ∧ b ≤ 127) (hk : ∀ k ∈ l, 0 ≤ k ∧ k < U.length) (hU : ∀ x ∈ U, 0 ≤ x ∧ x ≤ 65535) (hl : l.length ≤ 1000) (j : Nat) : -200000 ≤ (bump b U l).getD j 0 ∧ (bump b U l).getD j 0 ≤ 200000 := by
  rw [List.getD_eq_getElem?_getD, bump_get b l U hk j]
  by_cases hj : j < U.length
  · rw [List.getElem?_eq_getElem hj]
    have h1 := hU U[j] (List.getElem_mem hj)
    have h2 := Pn.times_nonneg (j : Int) l
    have h3 : Pn.times (j : Int) l ≤ 1000 := by
      have : l.count (j : Int) ≤ l.length := List.count_le_length
      unfold Pn.times
      omega
    have a1 := Int.mul_le_mul_of_nonneg_right (c := Pn.times (j : Int) l) hb.1 h2
    have a2 := Int.mul_le_mul_of_nonneg_right (c := Pn.times (j : Int) l) hb.2 h2
    show -200000 ≤ U[j] + b * Pn.times (j : Int) l ∧ U[j] + b * Pn.times (j : Int) l ≤ 200000
    omega
  · rw [List.getElem?_eq_none (by omega)]
    simp
/-- The row at g begins with these numbers, none frozen. -/
def RowI (W : World) (g : Nat) (l : List Int) : Prop := ∀ j (hj : j < l.length), W.cell? ⟨g, j, none⟩ = some (.int .i64 l[j]) ∧ W.frozen? ⟨g, j, none⟩ = false
theorem RowI.kept {W W' : World} {g : Nat} {l : List Int} (h : RowI W g l) (hk : W'.heap[g]? = W.heap[g]?) : RowI W' g l := fun j hj => by
  obtain ⟨h1, h2⟩ := h j hj
  exact ⟨(World.cell?_of_block (w := W) (a := ⟨g, j, none⟩) hk).trans h1, (World.frozen?_of_block (w := W) (a := ⟨g, j, none⟩) hk).trans h2⟩
theorem RowI.below {W W' : World} {g : Nat} {l : List Int} (h : RowI W g l) {B : Nat} (hb : Below B W W') (hg : g < B) : RowI W' g l := h.kept (hb.block g hg)
theorem RowI.drewN {W : World} {g : Nat} {l : List Int} (h : RowI W g l) (n : Nat) : RowI (W.drewN n) g l := h.kept rfl
theorem RowI.set {W : World} {g : Nat} {l : List Int} (h : RowI W g l) (o : Nat) (x : Int) (ho : o < l.length) : RowI (W.setCell ⟨g, o, none⟩ (.int .i64 x)) g (l.set o x) := fun j hj => by
  rw [List.length_set] at hj
  obtain ⟨h1, h2⟩ := h j hj
  refine ⟨?_, by rw [World.frozen?_setCell]; exact h2⟩
  by_cases e : j = o
  · subst e
    rw [World.cell?_setCell_same' _ _ _ (by rw [h1]; rfl)]
    simp
  · rw [World.cell?_setCell_other _ _ _ _ (by intro h; injection h with _ h; exact e h.symm)]
    rw [List.getElem_set_ne (Ne.symm e)]
    exact h1
theorem RowI.other {W : World} {g : Nat} {l : List Int} (h : RowI W g l) {a : Addr} (hne : g ≠ a.block) (v : Value) : RowI (W.setCell a v) g l := h.kept (Below.heap_setCell W a v g hne)
theorem RowI.cells {W : World} {g : Nat} {l : List Int} (h : RowI W g l) : Cells W (some ⟨g, 0, none⟩) (intCells l) := .inr ⟨g, 0, rfl, fun j u hu => by
  obtain ⟨hj, e⟩ := List.getElem?_eq_some_iff.1 hu
  rw [intCells_length] at hj
  rw [Nat.zero_add, (h j hj).1, ← e]
  simp [intCells]⟩
/-- An own row of numbers that is not empty: its block. -/
theorem own_rowI {W : World} {base n : Nat} {t : TypeId} {v : Value} {l : List Int} (h : W.ownsRow base t 1 v n (intCells l)) (hl : l ≠ []) : ∃ g c, v = .slice (some ⟨g, 0, none⟩) n c ∧ base ≤ g ∧ g < W.heap.size ∧ n = l.length ∧ n ≤ c ∧ c ≤ maxLen ∧ RowI W g l := by
  have hn : l.length ≠ 0 := fun e => hl (List.length_eq_zero_iff.1 e)
  have hx : (intCells l).length = n * 1 := h.1
  rw [intCells_length] at hx
  rcases h.2 with ⟨rfl, h0⟩ | ⟨g, cap, cur, rfl, hb, hg, h1, h2, h3, h4⟩
  · exact absurd hx (by omega)
  · refine ⟨g, cap, rfl, hb, (Array.getElem?_eq_some_iff.1 hg).1, by omega, h1, h2, fun j hj => ?_⟩
    have hc : cur[j]? = some (.int .i64 l[j]) := by
      have : (intCells l)[j]? = some (.int .i64 l[j]) := by simp [intCells, hj]
      rw [← h4, List.getElem?_take_of_lt (by omega)] at this
      simpa using this
    refine ⟨?_, ?_⟩
    · have hk : W.heap[g]? = some (.cells cur t (0, 0)) := hg
      simp [World.cell?, hk, hc]
    · have hk : W.heap[g]? = some (.cells cur t (0, 0)) := hg
      simp [World.frozen?, hk]
end Go.Proofs.YtplgmlcoeehnfaaGreat
