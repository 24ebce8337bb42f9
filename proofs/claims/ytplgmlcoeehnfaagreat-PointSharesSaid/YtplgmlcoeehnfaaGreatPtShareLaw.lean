/- What is shared, and counted: plain laws. Nothing of the program stands here. -/
import Derived.Test.YtplgmlcoeehnfaaGreatPtPointPlain
namespace Go.Proofs.YtplgmlcoeehnfaaGreat
namespace Pn
variable {D : Dk} {L X : Pn}
theorem lin_mid {b : Int} {m r c x y : Int} (h0 : 0 ≤ r) (h1 : r ≤ m) (hx : x ≤ c) (hy : c ≤ y) (hx2 : x ≤ c + b * m) (hy2 : c + b * m ≤ y) : x ≤ c + b * r ∧ c + b * r ≤ y := by
  by_cases hb : 0 ≤ b
  · have a1 := Int.mul_le_mul_of_nonneg_left h1 hb
    have a2 := Int.mul_nonneg hb h0
    omega
  · have hb' : 0 ≤ -b := by omega
    have a1 := Int.mul_le_mul_of_nonneg_left h1 hb'
    have a2 := Int.mul_nonneg hb' h0
    rw [Int.neg_mul, Int.neg_mul] at a1
    rw [Int.neg_mul] at a2
    omega
/-- A count touches the counts' sectors alone. -/
theorem cntAdd_look {k b : Int} (hD : D.fit = true) (hL : L.Fit) (h : cntAdd D L k b = (X, 0)) : (∀ o, 96 ≤ o → look D X o = look D L o) ∧ ∀ o, o ∈ X.targets ↔ o ∈ L.targets ∨ o = 87 + k / 32 := by
  obtain ⟨h0, h1, _, _, _, _, _, _, _⟩ := cntAdd_ok hD hL h
  rw [cntAdd] at h
  split at h
  · rename_i h0; injection h with _ h; exact absurd h h0
  split at h
  · injection h with _ h; simp at h
  · obtain ⟨p1, p2, p3, p4⟩ := patch_look hD hL h
    obtain ⟨q1, q2, q3, q4⟩ := patch_ok hD hL h
    exact ⟨fun o ho => p3 o (by omega), fun o => set_mem q4 o⟩
def times (k : Int) (l : List Int) : Int := ((l.count k : Nat) : Int)
theorem times_nil (k : Int) : times k [] = 0 := rfl
theorem times_cons (k a : Int) (l : List Int) : times k (a :: l) = times k l + if a = k then 1 else 0 := by
  unfold times
  rw [List.count_cons]
  by_cases h : a = k
  · simp [h]
  · simp [h]
theorem times_nonneg (k : Int) (l : List Int) : 0 ≤ times k l := Int.natCast_nonneg _
theorem times_pos {k : Int} {l : List Int} : 0 < times k l ↔ k ∈ l := by
  unfold times
  rw [Int.natCast_pos, List.count_pos_iff]
theorem times_none {k : Int} {l : List Int} (h : k ∉ l) : times k l = 0 := by
  have := times_nonneg k l
  have h2 : ¬ 0 < times k l := fun h2 => h (times_pos.1 h2)
  omega
theorem times_append (k : Int) (l m : List Int) : times k (l ++ m) = times k l + times k m := by
  unfold times
  rw [List.count_append]
  exact Int.natCast_add _ _
theorem addAll_cons (b : Int) (k : Int) (l : List Int) (s : Pn × Int) : addAll D b (k :: l) s = addAll D b l (step s fun X => cntAdd D X k b) := rfl
theorem addAll_err (b : Int) : ∀ (l : List Int) {s : Pn × Int}, s.2 ≠ 0 → addAll D b l s = s := by
  intro l
  induction l with
  | nil => intro s _; rfl
  | cons k l ih => intro s h; rw [addAll_cons, step_err h, ih h]
/-- Counted oftener, one by one: what all counts are then. -/
theorem addAll_ok (hD : D.fit = true) (b : Int) : ∀ (l : List Int) {L X : Pn}, L.Fit → addAll D b l (L, 0) = (X, 0) →
    X.Fit ∧ (∀ k, (cntGet D X k).1 = (cntGet D L k).1 + b * times k l ∧ (cntGet D X k).2 = (cntGet D L k).2) ∧ (∀ o, 96 ≤ o → look D X o = look D L o) ∧ (∀ o, 96 ≤ o → o ∈ X.targets → o ∈ L.targets) ∧
      (∀ o, o ∈ L.targets → o ∈ X.targets) ∧ ∀ k, k ∈ l → 87 + k / 32 ∈ X.targets ∧ (cntGet D L k).2 = 0 ∧ 0 ≤ k ∧ k < 256 := by
  intro l
  induction l with
  | nil =>
    intro L X hL h
    obtain ⟨rfl, _⟩ := Prod.mk.inj (show (L, (0 : Int)) = (X, 0) from h)
    exact ⟨hL, fun k => ⟨by rw [times_nil, Int.mul_zero, Int.add_zero], rfl⟩, fun _ _ => rfl, fun _ _ h => h, fun _ h => h, fun k (hk : k ∈ ([] : List Int)) => (nomatch hk)⟩
  | cons k l ih =>
    intro L X hL h
    rw [addAll_cons, step_zero rfl] at h
    replace h : addAll D b l (cntAdd D L k b) = (X, 0) := h
    have he : (cntAdd D L k b).2 = 0 := by
      refine Classical.byContradiction fun hn => ?_
      rw [addAll_err b l hn] at h
      exact hn (by rw [h])
    obtain ⟨M, hM⟩ : ∃ M, cntAdd D L k b = (M, 0) := ⟨_, Prod.ext rfl he⟩
    rw [hM] at h
    obtain ⟨k0, k1, k2, _, _, hMf, k5, k6, k7⟩ := cntAdd_ok hD hL hM
    obtain ⟨m1, m2⟩ := cntAdd_look hD hL hM
    obtain ⟨a1, a2, a3, a4, a5, a6⟩ := ih hMf h
    refine ⟨a1, fun j => ?_, fun o ho => by rw [a3 o ho, m1 o ho], fun o ho hm => ?_, fun o ho => a5 o ((m2 o).2 (.inl ho)), fun j hj => ?_⟩
    · obtain ⟨b1, b2⟩ := a2 j
      rw [times_cons]
      by_cases hj : k = j
      · subst hj
        rw [if_pos rfl]
        rw [b1, b2, k5]
        refine ⟨?_, k2.symm⟩
        rw [Int.mul_add]
        show (cntGet D L k).1 + b + b * times k l = _
        omega
      · rw [if_neg hj, b1, b2, k6 j (Ne.symm hj), Int.add_zero]
        exact ⟨rfl, rfl⟩
    · rcases (m2 o).1 (a4 o ho hm) with h | h
      · exact h
      · omega
    · by_cases hjk : j = k
      · subst hjk
        exact ⟨a5 _ k7, k2, k0, k1⟩
      · rcases List.mem_cons.1 hj with h | h
        · exact absurd h hjk
        · obtain ⟨c1, c2, c3⟩ := a6 j h
          rw [k6 j hjk] at c2
          exact ⟨c1, c2, c3⟩
/-- Where the plan has the counts' sectors and the counts stay small, all can be counted. -/
theorem addAll_there (hD : D.fit = true) (b : Int) : ∀ (l : List Int) {L : Pn}, L.Fit → (∀ k, k ∈ l → 87 + k / 32 ∈ L.targets ∧ (cntGet D L k).2 = 0 ∧ 0 ≤ (cntGet D L k).1 + b * times k l ∧ (cntGet D L k).1 + b * times k l ≤ 65535) → (addAll D b l (L, 0)).2 = 0 := by
  intro l
  induction l with
  | nil => intro L _ _; rfl
  | cons k l ih =>
    intro L hL h
    obtain ⟨h1, h2, h3, h4⟩ := h k List.mem_cons_self
    have hle := cntGet_le D L k
    rw [times_cons, if_pos rfl] at h3 h4
    have ht := times_nonneg k l
    have hm := lin_mid (b := b) (m := times k l + 1) (r := 1) (c := (cntGet D L k).1) (x := 0) (y := 65535) (by omega) (by omega) hle.1 hle.2 h3 h4
    have hr := cntAdd_there hD hL (k := k) (b := b) h2 h1 (by omega) (by omega)
    obtain ⟨M, hM⟩ : ∃ M, cntAdd D L k b = (M, 0) := ⟨_, Prod.ext rfl hr⟩
    obtain ⟨_, _, _, _, _, hMf, k5, k6, k7⟩ := cntAdd_ok hD hL hM
    obtain ⟨_, m2⟩ := cntAdd_look hD hL hM
    rw [addAll_cons, step_zero rfl]
    show (addAll D b l (cntAdd D L k b)).2 = 0
    rw [hM]
    refine ih hMf fun j hj => ?_
    obtain ⟨j1, j2, j3, j4⟩ := h j (List.mem_cons_of_mem _ hj)
    refine ⟨(m2 _).2 (.inl j1), ?_⟩
    rw [times_cons] at j3 j4
    by_cases hjk : k = j
    · subst hjk
      rw [if_pos rfl, Int.mul_add] at j3 j4
      rw [k5]
      refine ⟨rfl, ?_, ?_⟩
      · show 0 ≤ (cntGet D L k).1 + b + b * times k l; omega
      · show (cntGet D L k).1 + b + b * times k l ≤ 65535; omega
    · rw [if_neg hjk, Int.add_zero] at j3 j4
      rw [k6 j (Ne.symm hjk)]
      exact ⟨j2, j3, j4⟩
/-- Tables hang on sectors from 96 on. -/
theorem tabGet_far (h : ∀ o, 96 ≤ o → look D X o = look D L o) (t i : Int) : tabGet D X t i = tabGet D L t i := by
  by_cases ht : t < 0 ∨ 256 ≤ t
  · rw [tabGet_refused (.inl ht), tabGet_refused (.inl ht)]
  · exact tabGet_congr (by omega) (by omega) fun h1 h2 => h _ (by unfold entAt; omega)
theorem reachIn_congr (h : ∀ t i, tabGet D X t i = tabGet D L t i) (t : Int) : ∀ n, reachIn D X t n = reachIn D L t n := by
  intro n
  induction n with
  | zero => rfl
  | succ n ih => unfold reachIn; rw [ih, h]
theorem ptReach_congr (h : ∀ t i, tabGet D X t i = tabGet D L t i) (t : Int) : ptReach D X t = ptReach D L t := by
  have ha : ∀ i, reachAt D X t i = reachAt D L t i := fun i => by unfold reachAt; rw [h, reachIn_congr h]
  have hn : ∀ n, reachN D X t n = reachN D L t n := by
    intro n
    induction n with
    | zero => rfl
    | succ n ih => unfold reachN; rw [ih, ha]
  unfold ptReach
  rw [hn]
theorem ptShare_ok {l1 b : Int} (h : ptShare D L l1 b = (X, 0)) : (ptReach D L l1).2 = 0 ∧ addAll D b (ptReach D L l1).1 (L, 0) = (X, 0) := by
  unfold ptShare at h
  split at h
  · rename_i h0; exact absurd (Prod.mk.inj h).2 h0
  split at h
  · rename_i h0; exact absurd (Prod.mk.inj h).2 h0
  · rename_i h1 h2
    exact ⟨Classical.not_not.1 h1, Prod.ext (Prod.mk.inj h).1 (Classical.not_not.1 h2)⟩
theorem ptShare_of {l1 b : Int} (h : (ptReach D L l1).2 = 0) (h2 : addAll D b (ptReach D L l1).1 (L, 0) = (X, 0)) : ptShare D L l1 b = (X, 0) := by
  unfold ptShare
  rw [if_neg (by rw [h]; simp), h2, if_neg (by simp)]
theorem ptShare_err {l1 b : Int} (h : (ptReach D L l1).2 ≠ 0) : ptShare D L l1 b = (L, (ptReach D L l1).2) := by rw [ptShare, if_pos h]
/-- Counted oftener: what all counts are then. -/
theorem ptShare_counts {l1 b : Int} (hD : D.fit = true) (hL : L.Fit) (h : ptShare D L l1 b = (X, 0)) :
    X.Fit ∧ (∀ k, (cntGet D X k).1 = (cntGet D L k).1 + b * times k (ptReach D L l1).1 ∧ (cntGet D X k).2 = (cntGet D L k).2) ∧ ∀ o, 96 ≤ o → o ∈ X.targets → o ∈ L.targets := by
  obtain ⟨h1, h2⟩ := ptShare_ok h
  obtain ⟨a1, a2, _, a4, _, _⟩ := addAll_ok hD b _ hL h2
  exact ⟨a1, a2, a4⟩
theorem cnt_eq {a b : Int × Int} (h1 : a.1 = b.1) (h2 : a.2 = b.2) : a = b := Prod.ext h1 h2
/-- Counted oftener, and less often again (c = -b, or nothing is reached). -/
theorem ptShare_back {l1 b c : Int} (hD : D.fit = true) (hL : L.Fit) (h : ptShare D L l1 b = (X, 0)) (hc : c = -b ∨ b < -65535) :
    ∃ Y, ptShare D X l1 c = (Y, 0) ∧ Y.Fit ∧ ∀ k, cntGet D Y k = cntGet D L k := by
  obtain ⟨h1, h2⟩ := ptShare_ok h
  obtain ⟨a1, a2, a3, a4, a5, a6⟩ := addAll_ok hD b _ hL h2
  have hr := ptReach_congr (tabGet_far a3) l1
  have hbc : ∀ k, k ∈ (ptReach D L l1).1 → c = -b := fun k hk => by
    rcases hc with hc | hc
    · exact hc
    · exfalso
      have h3 := a2 k
      have p1 := cntGet_le D L k
      have p2 := cntGet_le D X k
      have p3 := times_pos.2 hk
      have p4 := Int.mul_le_mul_of_nonneg_right (a := b) (b := -65536) (c := times k (ptReach D L l1).1) (by omega) (by omega)
      omega
  have hz : (addAll D c (ptReach D X l1).1 (X, 0)).2 = 0 := by
    refine addAll_there hD c _ a1 fun k hk => ?_
    rw [hr] at hk ⊢
    obtain ⟨b1, b2, _, _⟩ := a6 k hk
    obtain ⟨c1, c2⟩ := a2 k
    have p1 := cntGet_le D L k
    rw [c2, c1, hbc k hk, Int.neg_mul]
    exact ⟨b1, b2, by omega, by omega⟩
  obtain ⟨Y, hY⟩ : ∃ Y, addAll D c (ptReach D X l1).1 (X, 0) = (Y, 0) := ⟨_, Prod.ext rfl hz⟩
  obtain ⟨y1, y2, _, _, _, _⟩ := addAll_ok hD c _ a1 hY
  refine ⟨Y, ptShare_of (by rw [hr]; exact h1) hY, y1, fun k => cnt_eq ?_ ?_⟩
  · rw [(y2 k).1, (a2 k).1, hr]
    by_cases hk : k ∈ (ptReach D L l1).1
    · rw [hbc k hk, Int.neg_mul]; omega
    · rw [times_none hk]; simp
  · rw [(y2 k).2, (a2 k).2]
/-- All counts hang on each one. -/
theorem cntAll_congr {Y : Pn} (h : ∀ k, cntGet D Y k = cntGet D L k) (n : Int) : cntAll D Y n = cntAll D L n := by
  unfold cntAll
  rw [show (fun i : Nat => cntGet D Y i) = fun i : Nat => cntGet D L i from funext fun i => h i]
end Pn
end Go.Proofs.YtplgmlcoeehnfaaGreat
