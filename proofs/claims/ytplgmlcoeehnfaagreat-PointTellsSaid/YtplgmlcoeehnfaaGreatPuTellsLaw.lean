/- What is shared, and counted: plain laws. Nothing of the program stands here. Counts that are added to in place: plain laws, and a row of numbers in memory. Where clusters are, behind one of them is somewhere else: plain laws. Nothing of the program stands here. -/
import Derived.Test.YtplgmlcoeehnfaaGreatPuPointPlain
import Derived.Test.YtplgmlcoeehnfaaGreatPuMem
namespace Go.Proofs.YtplgmlcoeehnfaaGreat
namespace Pn
variable {D : Dk} {L X : Pn}
/-- A count touches the counts' sectors alone. -/
theorem cntAdd_look {k b : Int} (hD : D.fit = true) (hL : L.Fit) (h : cntAdd D L k b = (X, 0)) : (∀ o, 96 ≤ o → look D X o = look D L o) ∧ ∀ o, o ∈ X.targets ↔ o ∈ L.targets ∨ o = 87 + k / 32 := by
  obtain ⟨h0, h1, _, _, _, _, _, _, _⟩ := cntAdd_ok hD hL h
  rw [cntAdd] at h
  split at h
  · rename_i h0; injection h with _ h; exact absurd h h0
  split at h
  · injection h with _ h; simp at h
  · obtain ⟨p1, p2, p3, p4⟩ := patch_look hD hL h
    obtain ⟨q1, q2, q3, q4⟩ := patch_ok hD hL h
    exact ⟨fun o ho => p3 o (by omega), fun o => set_mem q4 o⟩
def times (k : Int) (l : List Int) : Int := ((l.count k : Nat) : Int)
theorem times_nil (k : Int) : times k [] = 0 := rfl
theorem times_cons (k a : Int) (l : List Int) : times k (a :: l) = times k l + if a = k then 1 else 0 := by
  unfold times
  rw [List.count_cons]
  by_cases h : a = k
  · simp [h]
  · simp [h]
theorem times_nonneg (k : Int) (l : List Int) : 0 ≤ times k l := Int.natCast_nonneg _
theorem times_pos {k : Int} {l : List Int} : 0 < times k l ↔ k ∈ l := by
  unfold times
  rw [Int.natCast_pos, List.count_pos_iff]
theorem times_append (k : Int) (l m : List Int) : times k (l ++ m) = times k l + times k m := by
  unfold times
  rw [List.count_append]
  exact Int.natCast_add _ _
/-- Tables hang on sectors from 96 on. -/
theorem tabGet_far (h : ∀ o, 96 ≤ o → look D X o = look D L o) (t i : Int) : tabGet D X t i = tabGet D L t i := by
  by_cases ht : t < 0 ∨ 256 ≤ t
  · rw [tabGet_refused (.inl ht), tabGet_refused (.inl ht)]
  · exact tabGet_congr (by omega) (by omega) fun h1 h2 => h _ (by unfold entAt; omega)
end Pn
end Go.Proofs.YtplgmlcoeehnfaaGreat

namespace Go.Proofs.YtplgmlcoeehnfaaGreat
open Go.RowKit Go.Shelf
def bump (b : Int) (U l : List Int) : List Int := l.foldl (fun U k => U.set k.toNat (U.getD k.toNat 0 + b)) U
theorem bump_nil (b : Int) (U : List Int) : bump b U [] = U := rfl
theorem bump_snoc (b : Int) (U l : List Int) (k : Int) : bump b U (l ++ [k]) = (bump b U l).set k.toNat ((bump b U l).getD k.toNat 0 + b) := by unfold bump; rw [List.foldl_append]; rfl
theorem bump_length (b : Int) : ∀ (l U : List Int), (bump b U l).length = U.length := by
  intro l
  induction l with
  | nil => intro U; rfl
  | cons k l ih => intro U; exact (ih _).trans (by rw [List.length_set])
theorem bump_get (b : Int) : ∀ (l U : List Int), (∀ k ∈ l, 0 ≤ k ∧ k < U.length) → ∀ j : Nat, (bump b U l)[j]? = U[j]?.map fun x => x + b * Pn.times j l := by
  intro l
  induction l with
  | nil => intro U _ j; rw [bump_nil, Pn.times_nil, Int.mul_zero]; simp
  | cons k l ih =>
    intro U h j
    have hk := h k List.mem_cons_self
    have h' : ∀ x ∈ l, 0 ≤ x ∧ x < ((U.set k.toNat (U.getD k.toNat 0 + b)).length : Int) := fun x hx => by rw [List.length_set]; exact h x (List.mem_cons_of_mem _ hx)
    have e := ih _ h' j
    rw [show bump b U (k :: l) = bump b (U.set k.toNat (U.getD k.toNat 0 + b)) l from rfl, e, List.getElem?_set, Pn.times_cons]
    by_cases hj : k.toNat = j
    · have hkj : k = (j : Int) := by omega
      have hlt : j < U.length := by omega
      rw [if_pos hj, if_pos (by omega), if_pos hkj, hj, List.getD_eq_getElem?_getD, List.getElem?_eq_getElem hlt]
      simp only [Option.map_some, Option.getD_some, Option.some.injEq]
      rw [Int.mul_add]
      omega
    · have hkj : ¬ k = (j : Int) := by omega
      rw [if_neg hj, if_neg hkj, Int.add_zero]
theorem bump_small {b : Int} {U l : List Int} (hb : -128 ≤ b ∧ b ≤ 127) (hk : ∀ k ∈ l, 0 ≤ k ∧ k < U.length) (hU : ∀ x ∈ U, 0 ≤ x ∧ x ≤ 65535) (hl : l.length ≤ 1000) (j : Nat) : -200000 ≤ (bump b U l).getD j 0 ∧ (bump b U l).getD j 0 ≤ 200000 := by
  rw [List.getD_eq_getElem?_getD, bump_get b l U hk j]
  by_cases hj : j < U.length
  · rw [List.getElem?_eq_getElem hj]
    have h1 := hU U[j] (List.getElem_mem hj)
    have h2 := Pn.times_nonneg (j : Int) l
    have h3 : Pn.times (j : Int) l ≤ 1000 := by
      have : l.count (j : Int) ≤ l.length := List.count_le_length
      unfold Pn.times
      omega
    have a1 := Int.mul_le_mul_of_nonneg_right (c := Pn.times (j : Int) l) hb.1 h2
    have a2 := Int.mul_le_mul_of_nonneg_right (c := Pn.times (j : Int) l) hb.2 h2
    show -200000 ≤ U[j] + b * Pn.times (j : Int) l ∧ U[j] + b * Pn.times (j : Int) l ≤ 200000
    omega
  · rw [List.getElem?_eq_none (by omega)]
    simp
/-- The row at g begins with these numbers, none frozen. -/
def RowI (W : World) (g : Nat) (l : List Int) : Prop := ∀ j (hj : j < l.length), W.cell? ⟨g, j, none⟩ = some (.int .i64 l[j]) ∧ W.frozen? ⟨g, j, none⟩ = false
theorem RowI.kept {W W' : World} {g : Nat} {l : List Int} (h : RowI W g l) (hk : W'.heap[g]? = W.heap[g]?) : RowI W' g l := fun j hj => by
  obtain ⟨h1, h2⟩ := h j hj
  exact ⟨(World.cell?_of_block (w := W) (a := ⟨g, j, none⟩) hk).trans h1, (World.frozen?_of_block (w := W) (a := ⟨g, j, none⟩) hk).trans h2⟩
theorem RowI.below {W W' : World} {g : Nat} {l : List Int} (h : RowI W g l) {B : Nat} (hb : Below B W W') (hg : g < B) : RowI W' g l := h.kept (hb.block g hg)
theorem RowI.drewN {W : World} {g : Nat} {l : List Int} (h : RowI W g l) (n : Nat) : RowI (W.drewN n) g l := h.kept rfl
theorem RowI.set {W : World} {g : Nat} {l : List Int} (h : RowI W g l) (o : Nat) (x : Int) (ho : o < l.length) : RowI (W.setCell ⟨g, o, none⟩ (.int .i64 x)) g (l.set o x) := fun j hj => by
  rw [List.length_set] at hj
  obtain ⟨h1, h2⟩ := h j hj
  refine ⟨?_, by rw [World.frozen?_setCell]; exact h2⟩
  by_cases e : j = o
  · subst e
    rw [World.cell?_setCell_same' _ _ _ (by rw [h1]; rfl)]
    simp
  · rw [World.cell?_setCell_other _ _ _ _ (by intro h; injection h with _ h; exact e h.symm)]
    rw [List.getElem_set_ne (Ne.symm e)]
    exact h1
theorem RowI.other {W : World} {g : Nat} {l : List Int} (h : RowI W g l) {a : Addr} (hne : g ≠ a.block) (v : Value) : RowI (W.setCell a v) g l := h.kept (Below.heap_setCell W a v g hne)
theorem RowI.cells {W : World} {g : Nat} {l : List Int} (h : RowI W g l) : Cells W (some ⟨g, 0, none⟩) (intCells l) := .inr ⟨g, 0, rfl, fun j u hu => by
  obtain ⟨hj, e⟩ := List.getElem?_eq_some_iff.1 hu
  rw [intCells_length] at hj
  rw [Nat.zero_add, (h j hj).1, ← e]
  simp [intCells]⟩
/-- An own row of numbers that is not empty: its block. -/
theorem own_rowI {W : World} {base n : Nat} {t : TypeId} {v : Value} {l : List Int} (h : W.ownsRow base t 1 v n (intCells l)) (hl : l ≠ []) : ∃ g c, v = .slice (some ⟨g, 0, none⟩) n c ∧ base ≤ g ∧ g < W.heap.size ∧ n = l.length ∧ n ≤ c ∧ c ≤ maxLen ∧ RowI W g l := by
  have hn : l.length ≠ 0 := fun e => hl (List.length_eq_zero_iff.1 e)
  have hx : (intCells l).length = n * 1 := h.1
  rw [intCells_length] at hx
  rcases h.2 with ⟨rfl, h0⟩ | ⟨g, cap, cur, rfl, hb, hg, h1, h2, h3, h4⟩
  · exact absurd hx (by omega)
  · refine ⟨g, cap, rfl, hb, (Array.getElem?_eq_some_iff.1 hg).1, by omega, h1, h2, fun j hj => ?_⟩
    have hc : cur[j]? = some (.int .i64 l[j]) := by
      have : (intCells l)[j]? = some (.int .i64 l[j]) := by simp [intCells, hj]
      rw [← h4, List.getElem?_take_of_lt (by omega)] at this
      simpa using this
    refine ⟨?_, ?_⟩
    · have hk : W.heap[g]? = some (.cells cur t (0, 0)) := hg
      simp [World.cell?, hk, hc]
    · have hk : W.heap[g]? = some (.cells cur t (0, 0)) := hg
      simp [World.frozen?, hk]
end Go.Proofs.YtplgmlcoeehnfaaGreat

namespace Go.Proofs.YtplgmlcoeehnfaaGreat
namespace Pn
variable {D : Dk} {L X : Pn}
theorem step_ok {s : Pn × Int} {f : Pn → Pn × Int} (h : (step s f).2 = 0) : s.2 = 0 ∧ step s f = f s.1 := by
  by_cases h0 : s.2 = 0
  · exact ⟨h0, step_zero h0⟩
  · rw [step_err h0] at h; exact absurd h h0
/-! ### What is reached -/
theorem reachIn_ok (t : Int) : ∀ n, (reachIn D L t n).2 = 0 → ∀ k : Nat, k < n → (tabGet D L t k).2 = 0 ∧ ((tabGet D L t k).1.1 = 1 → (tabGet D L t k).1.2 ∈ (reachIn D L t n).1) := by
  intro n
  induction n with
  | zero => intro _ k hk; omega
  | succ n ih =>
    intro h k hk
    unfold reachIn at h ⊢
    split at h
    · rename_i h0; exact absurd h h0
    rename_i h0
    rw [if_neg h0]
    split at h
    · rename_i h1; exact absurd h h1
    rename_i h1
    rw [if_neg h1]
    have ih' := ih (Classical.not_not.1 h0)
    rcases Nat.lt_or_eq_of_le (Nat.le_of_lt_succ hk) with hk | rfl
    · obtain ⟨a, b⟩ := ih' k hk
      refine ⟨a, fun h => ?_⟩
      split
      · exact List.mem_append_left _ (b h)
      · exact b h
    · refine ⟨Classical.not_not.1 h1, fun h => ?_⟩
      rw [if_pos h]
      exact List.mem_append_right _ (List.mem_singleton.2 rfl)
theorem reachAt_ok {l1 : Int} {i : Nat} (h : (reachAt D L l1 i).2 = 0) : (tabGet D L l1 i).2 = 0 ∧ (tabGet D L l1 i).1.1 ≠ 2 ∧ ((tabGet D L l1 i).1.1 = 1 → (tabGet D L l1 i).1.2 ∈ (reachAt D L l1 i).1 ∧
    ∀ k : Nat, k < 16 → (tabGet D L (tabGet D L l1 i).1.2 k).2 = 0 ∧ ((tabGet D L (tabGet D L l1 i).1.2 k).1.1 = 1 → (tabGet D L (tabGet D L l1 i).1.2 k).1.2 ∈ (reachAt D L l1 i).1)) := by
  unfold reachAt at h ⊢
  split at h
  · rename_i h0; exact absurd h h0
  rename_i h0
  rw [if_neg h0]
  split at h
  · exact absurd h (by decide)
  rename_i h1
  rw [if_neg h1]
  refine ⟨Classical.not_not.1 h0, h1, fun h2 => ?_⟩
  rw [if_neg (by rw [h2]; decide)] at h ⊢
  refine ⟨List.mem_cons_self, fun k hk => ?_⟩
  obtain ⟨a, b⟩ := reachIn_ok _ 16 h k hk
  exact ⟨a, fun hb => List.mem_cons_of_mem _ (b hb)⟩
theorem reachN_part {l1 : Int} {n : Nat} (h : (reachN D L l1 (n + 1)).2 = 0) : (reachN D L l1 n).2 = 0 ∧ (reachAt D L l1 n).2 = 0 ∧ (reachN D L l1 (n + 1)).1 = (reachN D L l1 n).1 ++ (reachAt D L l1 n).1 := by
  have e : reachN D L l1 (n + 1) = if (reachN D L l1 n).2 ≠ 0 then reachN D L l1 n else ((reachN D L l1 n).1 ++ (reachAt D L l1 n).1, (reachAt D L l1 n).2) := rfl
  rw [e] at h ⊢
  split at h
  · rename_i h0; exact absurd h h0
  rename_i h0
  rw [if_neg h0]
  exact ⟨Classical.not_not.1 h0, h, rfl⟩
theorem reachN_ok {l1 : Int} : ∀ n, (reachN D L l1 n).2 = 0 → ∀ i : Nat, i < n → (reachAt D L l1 i).2 = 0 ∧ ∀ x, times x (reachAt D L l1 i).1 ≤ times x (reachN D L l1 n).1 := by
  intro n
  induction n with
  | zero => intro _ i hi; omega
  | succ n ih =>
    intro h i hi
    obtain ⟨h1, h2, h3⟩ := reachN_part h
    rw [h3]
    rcases Nat.lt_or_eq_of_le (Nat.le_of_lt_succ hi) with hi | rfl
    · obtain ⟨a, b⟩ := ih h1 i hi
      refine ⟨a, fun x => ?_⟩
      rw [times_append]
      have := b x
      have := times_nonneg x (reachAt D L l1 n).1
      omega
    · refine ⟨h2, fun x => ?_⟩
      rw [times_append]
      have := times_nonneg x (reachN D L l1 i).1
      omega
theorem reachN_two {l1 : Int} : ∀ n, (reachN D L l1 n).2 = 0 → ∀ i j : Nat, i < n → j < n → i ≠ j → ∀ x, times x (reachAt D L l1 i).1 + times x (reachAt D L l1 j).1 ≤ times x (reachN D L l1 n).1 := by
  intro n
  induction n with
  | zero => intro _ i j hi; omega
  | succ n ih =>
    intro h i j hi hj hij x
    obtain ⟨h1, h2, h3⟩ := reachN_part h
    rw [h3, times_append]
    by_cases hi' : i = n
    · subst hi'
      have := (reachN_ok i h1 j (by omega)).2 x
      omega
    · by_cases hj' : j = n
      · subst hj'
        have := (reachN_ok j h1 i (by omega)).2 x
        omega
      · have := ih h1 i j (by omega) (by omega) hij x
        have := times_nonneg x (reachAt D L l1 n).1
        omega
theorem ptReach_ok {l1 : Int} (h : (ptReach D L l1).2 = 0) : (reachN D L l1 4).2 = 0 ∧ (ptReach D L l1).1 = (reachN D L l1 4).1 := by
  unfold ptReach at h ⊢
  split at h
  · rename_i h0; exact absurd h h0
  rename_i h0
  rw [if_neg h0]
  exact ⟨Classical.not_not.1 h0, rfl⟩
/-- What stands in a first table that can be reached through. -/
theorem ptReach_at {l1 : Int} (h : (ptReach D L l1).2 = 0) {j : Int} (h0 : 0 ≤ j) (h4 : j < 4) : (tabGet D L l1 j).2 = 0 ∧ (tabGet D L l1 j).1.1 ≠ 2 ∧ ((tabGet D L l1 j).1.1 = 1 → (tabGet D L l1 j).1.2 ∈ (ptReach D L l1).1 ∧
    ∀ k : Int, 0 ≤ k → k < 16 → (tabGet D L (tabGet D L l1 j).1.2 k).2 = 0 ∧ ((tabGet D L (tabGet D L l1 j).1.2 k).1.1 = 1 → (tabGet D L (tabGet D L l1 j).1.2 k).1.2 ∈ (ptReach D L l1).1)) := by
  obtain ⟨h1, h2⟩ := ptReach_ok h
  obtain ⟨i, rfl⟩ := Int.eq_ofNat_of_zero_le h0
  obtain ⟨a, b⟩ := reachN_ok 4 h1 i (by omega)
  obtain ⟨c, d, e⟩ := reachAt_ok a
  have hm : ∀ x, x ∈ (reachAt D L l1 i).1 → x ∈ (ptReach D L l1).1 := fun x hx => by
    rw [h2]
    have := b x
    have := times_pos.2 hx
    exact times_pos.1 (by omega)
  refine ⟨c, d, fun h => ?_⟩
  obtain ⟨f, g⟩ := e h
  refine ⟨hm _ f, fun k k0 k1 => ?_⟩
  obtain ⟨k, rfl⟩ := Int.eq_ofNat_of_zero_le k0
  obtain ⟨p, q⟩ := g k (by omega)
  exact ⟨p, fun h => hm _ (q h)⟩
/-- Two entries of a first table that are one second table: it is reached twice. -/
theorem ptReach_twice {l1 : Int} (h : (ptReach D L l1).2 = 0) {i j : Int} (hi0 : 0 ≤ i) (hi : i < 4) (hj0 : 0 ≤ j) (hj : j < 4) (hij : i ≠ j) (h1 : (tabGet D L l1 i).1.1 = 1) (h2 : (tabGet D L l1 j).1.1 = 1)
    (he : (tabGet D L l1 j).1.2 = (tabGet D L l1 i).1.2) : 2 ≤ times (tabGet D L l1 i).1.2 (ptReach D L l1).1 := by
  obtain ⟨a1, a2⟩ := ptReach_ok h
  obtain ⟨i, rfl⟩ := Int.eq_ofNat_of_zero_le hi0
  obtain ⟨j, rfl⟩ := Int.eq_ofNat_of_zero_le hj0
  have b1 := ((reachAt_ok (reachN_ok 4 a1 i (by omega)).1).2.2 h1).1
  have b2 := ((reachAt_ok (reachN_ok 4 a1 j (by omega)).1).2.2 h2).1
  rw [he] at b2
  have c1 := times_pos.2 b1
  have c2 := times_pos.2 b2
  have := reachN_two 4 a1 i j (by omega) (by omega) (by omega) (tabGet D L l1 i).1.2
  rw [a2]
  omega
/-! ### Counts that say how often clusters are reached -/
def wantOf (D : Dk) (L : Pn) (a b k : Int) : Int := ((if k = a then 1 else 0) + times k (ptReach D L a).1) + ((if k = b then 1 else 0) + times k (ptReach D L b).1)
structure Counted (D : Dk) (L : Pn) (a b : Int) : Prop where
  ra : (ptReach D L a).2 = 0
  rb : (ptReach D L b).2 = 0
  ia : 0 ≤ a ∧ a < 256
  ib : 0 ≤ b ∧ b < 256
  ne : a ≠ b
  le : ∀ k : Int, 0 ≤ k → k < 256 → wantOf D L a b k ≤ (cntGet D L k).1
  wa : wantOf D L a b a = 1
  wb : wantOf D L a b b = 1
theorem Counted.free {a b k : Int} (h : Counted D L a b) (h0 : 0 ≤ k) (h1 : k < 256) (hc : cntGet D L k = (0, 0)) : k ≠ a ∧ k ≠ b ∧ k ∉ (ptReach D L a).1 ∧ k ∉ (ptReach D L b).1 := by
  have hl := h.le k h0 h1
  rw [hc] at hl
  have hl : wantOf D L a b k ≤ 0 := hl
  unfold wantOf at hl
  have p1 := times_nonneg k (ptReach D L a).1
  have p2 := times_nonneg k (ptReach D L b).1
  refine ⟨fun e => ?_, fun e => ?_, fun e => ?_, fun e => ?_⟩
  · rw [if_pos e] at hl; split at hl <;> omega
  · rw [if_pos e] at hl; split at hl <;> omega
  · have := times_pos.2 e; split at hl <;> split at hl <;> omega
  · have := times_pos.2 e; split at hl <;> split at hl <;> omega
theorem Counted.firsts {a b : Int} (h : Counted D L a b) : a ∉ (ptReach D L a).1 ∧ a ∉ (ptReach D L b).1 ∧ b ∉ (ptReach D L a).1 ∧ b ∉ (ptReach D L b).1 := by
  have h1 := h.wa
  have h2 := h.wb
  unfold wantOf at h1 h2
  rw [if_pos rfl, if_neg h.ne] at h1
  rw [if_neg (Ne.symm h.ne), if_pos rfl] at h2
  have p1 := times_nonneg a (ptReach D L a).1
  have p2 := times_nonneg a (ptReach D L b).1
  have p3 := times_nonneg b (ptReach D L a).1
  have p4 := times_nonneg b (ptReach D L b).1
  refine ⟨fun e => ?_, fun e => ?_, fun e => ?_, fun e => ?_⟩ <;> (have := times_pos.2 e; omega)
theorem Counted.once {a b t : Int} (h : Counted D L a b) (h0 : 0 ≤ t) (h1 : t < 256) (hm : t ∈ (ptReach D L a).1) (hc : (cntGet D L t).1 ≤ 1) : t ≠ a ∧ t ≠ b ∧ t ∉ (ptReach D L b).1 ∧ times t (ptReach D L a).1 = 1 := by
  have hl := h.le t h0 h1
  unfold wantOf at hl
  have p1 := times_pos.2 hm
  have p2 := times_nonneg t (ptReach D L b).1
  refine ⟨fun e => ?_, fun e => ?_, fun e => ?_, ?_⟩
  · rw [if_pos e] at hl; split at hl <;> omega
  · rw [if_pos e] at hl; split at hl <;> omega
  · have := times_pos.2 e; split at hl <;> split at hl <;> omega
  · split at hl <;> split at hl <;> omega
/-! ### Tables behind the steps -/
theorem cntAdd_tab {k b : Int} (hD : D.fit = true) (hL : L.Fit) (h : cntAdd D L k b = (X, 0)) (t i : Int) : tabGet D X t i = tabGet D L t i := tabGet_far (cntAdd_look hD hL h).1 t i
/-- A table that is taken, filled, and set: the tables then. -/
theorem ptFresh_tab {h l1 i f k : Int} (hD : D.fit = true) (hL : L.Fit) (hh : h ≤ 256) (he : ptFresh D L h l1 i f = (X, k, 0)) (hk : ∀ k, 0 ≤ k → k < 256 → cntGet D L k = (0, 0) → k ≠ l1 ∧ k ≠ f) :
    X.Fit ∧ 0 ≤ k ∧ k < 256 ∧ cntGet D L k = (0, 0) ∧ tabGet D X l1 i = ((1, k), 0) ∧ (∀ j, j ≠ i → tabGet D X l1 j = tabGet D L l1 j) ∧
      (∀ j, 0 ≤ j → j < 16 → tabGet D X k j = if f < 0 then ((0, 0), 0) else tabGet D L f j) ∧ ∀ o j, o ≠ l1 → o ≠ k → tabGet D X o j = tabGet D L o j := by
  unfold ptFresh at he
  split at he
  · rename_i h0; exact absurd (Prod.mk.inj (Prod.mk.inj he).2).2 h0
  rename_i h0
  obtain ⟨he1, he2⟩ := Prod.mk.inj he
  obtain ⟨he2, _⟩ := Prod.mk.inj he2
  have h0 := Classical.not_not.1 h0
  unfold freshSteps at h0 he1
  obtain ⟨s3, e3⟩ := step_ok h0
  obtain ⟨s2, e2⟩ := step_ok s3
  obtain ⟨s1, e1⟩ := step_ok s2
  rw [e3] at h0 he1
  rw [e2] at h0 he1 s3
  rw [e1] at h0 he1 s3 s2
  clear e1 e2 e3
  rcases alTake_cases D L h with ⟨n, M, hn, hM, c1, _, c3⟩ | ⟨hc, _⟩
  rotate_left
  · exact absurd s1 hc
  rw [hM] at h0 he1 s3 s2 he2
  simp only at h0 he1 s3 s2 he2
  subst he2
  have hn0 : (0 : Int) ≤ (n : Int) := Int.natCast_nonneg n
  obtain ⟨hk1, hk2⟩ := hk n hn0 (by omega) c1
  obtain ⟨_, _, _, _, _, hMf, _⟩ := cntAdd_ok hD hL c3
  have tM := cntAdd_tab hD hL c3
  have hfit : X.Fit := by
    have := freshSteps_fit hD hL h l1 i f
    unfold freshSteps at this
    rw [hM] at this
    simp only at this
    rw [step_zero (s := (M, 0)) rfl] at this
    rw [step_zero (s := if f < 0 then tabBlank M (n : Int) else tabCopy D M f (n : Int)) s2] at this
    rw [step_zero s3, he1] at this
    exact this
  refine ⟨hfit, hn0, by omega, c1, ?_⟩
  by_cases hf : f < 0
  · rw [if_pos hf] at s2
    rw [if_pos hf, if_pos hf] at h0 he1
    simp only at h0 he1
    obtain ⟨N, hN⟩ : ∃ N, tabBlank M (n : Int) = (N, 0) := ⟨_, Prod.ext rfl s2⟩
    rw [hN] at h0 he1
    obtain ⟨hNf, _, b1, b2⟩ := tabBlank_ok (D := D) hMf hN
    obtain ⟨_, c4, c5⟩ := tabSet_ok hD hNf (X := X) (Prod.ext he1 h0)
    refine ⟨c4, fun j hj => ?_, fun j j0 j1 => ?_, fun o j ho hk => ?_⟩
    · rw [c5 l1 j (.inr hj), b2 l1 j (Ne.symm hk1), tM]
    · rw [if_pos hf, c5 _ j (.inl hk1), b1 j j0 j1]
    · rw [c5 o j (.inl ho), b2 o j hk, tM]
  · rw [if_neg hf] at s2
    rw [if_neg hf, if_neg hf] at s3
    rw [if_neg hf, if_neg hf] at h0 he1
    obtain ⟨N, hN⟩ : ∃ N, tabCopy D M f (n : Int) = (N, 0) := ⟨_, Prod.ext rfl s2⟩
    rw [hN] at h0 he1 s3
    simp only at h0 he1 s3
    obtain ⟨hNf, b1, b2⟩ := tabCopy_ok hMf hN
    obtain ⟨O, hO⟩ : ∃ O, cntAdd D N f (-1) = (O, 0) := ⟨_, Prod.ext rfl s3⟩
    rw [hO] at h0 he1
    obtain ⟨_, _, _, _, _, hOf, _⟩ := cntAdd_ok hD hNf hO
    have tO := cntAdd_tab hD hNf hO
    obtain ⟨_, c4, c5⟩ := tabSet_ok hD hOf (X := X) (Prod.ext he1 h0)
    refine ⟨c4, fun j hj => ?_, fun j j0 j1 => ?_, fun o j ho hk => ?_⟩
    · rw [c5 l1 j (.inr hj), tO, b2 l1 j (Ne.symm hk1), tM]
    · rw [if_neg hf, c5 _ j (.inl hk1), tO, b1 j, tM]
    · rw [c5 o j (.inl ho), tO, b2 o j hk, tM]
/-- What a first table has, by its two entries. -/
theorem tabFind_in {l1 v : Int} (h0 : 0 ≤ v) (h1 : v < 64) : tabFind D L l1 v = if (tabGet D L l1 (v / 16)).2 ≠ 0 ∨ (tabGet D L l1 (v / 16)).1.1 = 0 then ((0, 0), (tabGet D L l1 (v / 16)).2)
    else if (tabGet D L l1 (v / 16)).1.1 = 2 then ((0, 0), 14) else tabGet D L (tabGet D L l1 (v / 16)).1.2 (v % 16) := by rw [tabFind, if_neg (by omega)]
/-- The guest's own table: the tables then. -/
theorem ptOwn_tab {g h u t b : Int} (hD : D.fit = true) (hL : L.Fit) (hh : h ≤ 256) (hg : g ≤ 64) (he : ptOwn D L g h u = (X, t, 0)) (hc : Counted D L (rtGet D L).1.1 b) :
    0 ≤ u ∧ u < g ∧ X.Fit ∧ t ≠ ((rtGet D L).1.1 : Int) ∧ t ≠ b ∧ t ∉ (ptReach D L b).1 ∧ tabGet D X (rtGet D L).1.1 (u / 16) = ((1, t), 0) ∧
      (∀ j, 0 ≤ j → j < 4 → j ≠ u / 16 → tabGet D X (rtGet D L).1.1 j = tabGet D L (rtGet D L).1.1 j ∧ ((tabGet D L (rtGet D L).1.1 j).1.1 = 1 → (tabGet D L (rtGet D L).1.1 j).1.2 ≠ t)) ∧
      (∀ v, 0 ≤ v → v < 64 → v / 16 = u / 16 → tabGet D X t (v % 16) = tabFind D L (rtGet D L).1.1 v) ∧ ∀ o j, o ≠ ((rtGet D L).1.1 : Int) → o ≠ t → tabGet D X o j = tabGet D L o j := by
  unfold ptOwn at he
  generalize ((rtGet D L).1.1 : Int) = one at hc he ⊢
  split at he
  · exact absurd (Prod.mk.inj (Prod.mk.inj he).2).2 (by decide)
  rename_i hu
  split at he
  · rename_i h0; exact absurd (Prod.mk.inj (Prod.mk.inj he).2).2 h0
  split at he
  · rename_i h0; exact absurd (Prod.mk.inj (Prod.mk.inj he).2).2 h0
  rename_i h2
  have h2 := Classical.not_not.1 h2
  split at he
  · exact absurd (Prod.mk.inj (Prod.mk.inj he).2).2 (by decide)
  rename_i h3
  have hu0 : 0 ≤ u := by omega
  have hu1 : u < g := by omega
  refine ⟨hu0, hu1, ?_⟩
  have hfree := fun k (h0 : 0 ≤ k) (h1 : k < 256) (hz : cntGet D L k = (0, 0)) => hc.free h0 h1 hz
  have hsm := tabGet_small D L one (u / 16)
  have hat := fun j (h0 : 0 ≤ j) (h1 : j < 4) => ptReach_at hc.ra h0 h1
  split at he
  · rename_i h4
    obtain ⟨a1, a2, a3, a4, a5, a6, a7, a8⟩ := ptFresh_tab hD hL hh he (fun k h0 h1 hz => ⟨(hfree k h0 h1 hz).1, by omega⟩)
    obtain ⟨f1, f2, f3, f4⟩ := hfree t a2 a3 a4
    refine ⟨a1, f1, f2, f4, a5, fun j j0 j1 hj => ⟨a6 j hj, fun hk e => f3 (e ▸ ((hat j j0 j1).2.2 hk).1)⟩, fun v v0 v1 hv => ?_, a8⟩
    rw [a7 _ (by omega) (by omega), if_pos (by decide), tabFind_in v0 v1, hv, if_pos (.inr h4), h2]
  rename_i h4
  have h1 : (tabGet D L one (u / 16)).1.1 = 1 := by omega
  obtain ⟨m1, m2⟩ := (hat (u / 16) (by omega) (by omega)).2.2 h1
  have hfind : ∀ v, 0 ≤ v → v < 64 → v / 16 = u / 16 → tabFind D L one v = tabGet D L (tabGet D L one (u / 16)).1.2 (v % 16) := fun v v0 v1 hv => by
    rw [tabFind_in v0 v1, hv, if_neg (by rw [h1, h2]; decide), if_neg h3]
  split at he
  · rename_i h0; exact absurd (Prod.mk.inj (Prod.mk.inj he).2).2 h0
  rename_i h5
  split at he
  · rename_i h6
    obtain ⟨rfl, he2⟩ := Prod.mk.inj he
    obtain ⟨rfl, _⟩ := Prod.mk.inj he2
    obtain ⟨o1, o2, o3, o4⟩ := hc.once hsm.2.2.1 hsm.2.2.2 m1 h6
    refine ⟨hL, o1, o2, o3, Prod.ext (Prod.ext h1 rfl) h2, fun j j0 j1 hj => ⟨rfl, fun hk e => ?_⟩, fun v v0 v1 hv => (hfind v v0 v1 hv).symm, fun o j _ _ => rfl⟩
    have := ptReach_twice hc.ra (i := u / 16) (j := j) (by omega) (by omega) j0 j1 (Ne.symm hj) h1 hk e
    omega
  · rename_i h6
    obtain ⟨a1, a2, a3, a4, a5, a6, a7, a8⟩ := ptFresh_tab hD hL hh he (fun k h0 h1 hz => ⟨(hfree k h0 h1 hz).1, fun e => by rw [← e, hz] at h6; simp at h6⟩)
    obtain ⟨f1, f2, f3, f4⟩ := hfree t a2 a3 a4
    refine ⟨a1, f1, f2, f4, a5, fun j j0 j1 hj => ⟨a6 j hj, fun hk e => f3 (e ▸ ((hat j j0 j1).2.2 hk).1)⟩, fun v v0 v1 hv => ?_, a8⟩
    rw [a7 _ (by omega) (by omega), if_neg (by omega), hfind v v0 v1 hv]
/-- Behind one of the guest's clusters is somewhere else: what the guest has, and what another first table has. -/
theorem ptPoint_tab {g h u K A b : Int} {Y : Pn} (hD : D.fit = true) (hL : L.Fit) (hh : h ≤ 256) (hg : g ≤ 64) (he : ptPoint D L g h u K A = (Y, 0)) (hc : Counted D L (rtGet D L).1.1 b) :
    0 ≤ u ∧ u < 64 ∧ (∀ v, 0 ≤ v → v < 64 → tabFind D Y (rtGet D L).1.1 v = if v = u then ((K, A), 0) else tabFind D L (rtGet D L).1.1 v) ∧ ∀ v, 0 ≤ v → v < 64 → tabFind D Y b v = tabFind D L b v := by
  unfold ptPoint at he
  split at he
  · rename_i h0; exact absurd (Prod.mk.inj he).2 h0
  rename_i h1
  split at he
  · rename_i h0; exact absurd (Prod.mk.inj he).2 h0
  rename_i h2
  split at he
  · rename_i h0; exact absurd (Prod.mk.inj he).2 h0
  rename_i h3
  have h1 := Classical.not_not.1 h1
  have h2 := Classical.not_not.1 h2
  have h3 := Classical.not_not.1 h3
  obtain ⟨hY, _⟩ := Prod.mk.inj he
  obtain ⟨X, t, ho⟩ : ∃ X t, ptOwn D L g h u = (X, t, 0) := ⟨_, _, Prod.ext rfl (Prod.ext rfl h1)⟩
  rw [ho] at h2 h3 hY
  simp only at h2 h3 hY
  obtain ⟨u0, u1, hX, t1, t2, t3, a1, a2, a3, a4⟩ := ptOwn_tab hD hL hh hg ho hc
  unfold putSteps at h3 hY
  obtain ⟨s1, e1⟩ := step_ok h3
  rw [e1] at h3 hY
  clear e1
  obtain ⟨Z, hZ, hZt⟩ : ∃ Z, (if (tabGet D X t (u % 16)).1.1 = 1 then cntAdd D X (tabGet D X t (u % 16)).1.2 (-1) else (X, 0)) = (Z, 0) ∧ Z.Fit ∧ ∀ o j, tabGet D Z o j = tabGet D X o j := by
    refine ⟨_, Prod.ext rfl s1, ?_⟩
    split at s1
    · rename_i h5
      rw [if_pos h5]
      have hq : cntAdd D X (tabGet D X t (u % 16)).1.2 (-1) = ((cntAdd D X (tabGet D X t (u % 16)).1.2 (-1)).1, 0) := Prod.ext rfl s1
      exact ⟨(cntAdd_ok hD hX hq).2.2.2.2.2.1, cntAdd_tab hD hX hq⟩
    · rename_i h5
      rw [if_neg h5]
      exact ⟨hX, fun _ _ => rfl⟩
  rw [hZ] at h3 hY
  obtain ⟨hZf, hZt⟩ := hZt
  obtain ⟨_, c1, c2⟩ := tabSet_ok hD hZf (X := Y) (Prod.ext hY h3)
  generalize ((rtGet D L).1.1 : Int) = one at hc t1 a1 a2 a3 a4 ⊢
  have hone := hc.firsts
  refine ⟨u0, by omega, fun v v0 v1 => ?_, fun v v0 v1 => ?_⟩
  · have y1 : tabGet D Y one (v / 16) = tabGet D X one (v / 16) := by rw [c2 _ _ (.inl (Ne.symm t1)), hZt]
    by_cases hv : v / 16 = u / 16
    · rw [tabFind_in v0 v1, y1, hv, a1, if_neg (by simp), if_neg (by simp)]
      show tabGet D Y t (v % 16) = _
      by_cases hvu : v = u
      · rw [if_pos hvu, hvu, c1]
      · rw [if_neg hvu, c2 _ _ (.inr (by omega)), hZt, a3 v v0 v1 hv]
    · have hvu : v ≠ u := fun e => hv (by rw [e])
      obtain ⟨b1, b2⟩ := a2 (v / 16) (by omega) (by omega) hv
      rw [if_neg hvu, tabFind_in v0 v1, tabFind_in v0 v1, y1, b1]
      split
      · rfl
      split
      · rfl
      · rename_i k1 k2
        have hs := tabGet_small D L one (v / 16)
        have hk : (tabGet D L one (v / 16)).1.1 = 1 := by omega
        have hm := ((ptReach_at hc.ra (j := v / 16) (by omega) (by omega)).2.2 hk).1
        rw [c2 _ _ (.inl (b2 hk)), hZt, a4 _ _ (fun e => hone.1 (by rw [e] at hm; exact hm)) (b2 hk)]
  · have y1 : tabGet D Y b (v / 16) = tabGet D L b (v / 16) := by rw [c2 _ _ (.inl (Ne.symm t2)), hZt, a4 _ _ (Ne.symm hc.ne) (Ne.symm t2)]
    rw [tabFind_in v0 v1, tabFind_in v0 v1, y1]
    split
    · rfl
    split
    · rfl
    · rename_i k1 k2
      have hs := tabGet_small D L b (v / 16)
      have hk : (tabGet D L b (v / 16)).1.1 = 1 := by omega
      have hm := ((ptReach_at hc.rb (j := v / 16) (by omega) (by omega)).2.2 hk).1
      have ht : (tabGet D L b (v / 16)).1.2 ≠ t := fun e => t3 (e ▸ hm)
      rw [c2 _ _ (.inl ht), hZt, a4 _ _ (fun e => hone.2.1 (by rw [e] at hm; exact hm)) ht]
theorem allN_alike {α : Type} {f g : Nat → α × Int} {n : Nat} (h : ∀ i, i < n → f i = g i) : allN f n = allN g n := by
  induction n with
  | zero => rfl
  | succ n ih => unfold allN; rw [ih fun i hi => h i (by omega), h n (by omega)]
/-- What another first table has can be told where it can be reached through. -/
theorem tabAll_reached {l1 : Int} (h : (ptReach D L l1).2 = 0) : (tabAll D L l1).2 = 0 := by
  refine allN_all fun i hi => ?_
  obtain ⟨a, b, c⟩ := ptReach_at h (j := (i : Int) / 16) (by omega) (by omega)
  rw [tabFind_in (by omega) (by omega)]
  split
  · exact a
  · rename_i h1
    have hs := tabGet_small D L l1 ((i : Int) / 16)
    exact ((c (by omega)).2 _ (by omega) (by omega)).1
end Pn
end Go.Proofs.YtplgmlcoeehnfaaGreat
