/- A journal: the plain words and first laws. Nothing of the program stands here. A replay done twice is one: the plain laws. Nothing of the program stands here. Chapter 7's example, in plain words: a plan of one sector made to last on a fresh device, and what then stands in the journal. Nothing of the program stands here. Two plans, the second one cut off anywhere by a crash, and the replay, too: the plain laws. Nothing of the program stands here. All or none: the plain law of two plans, the second one cut off anywhere, and the replay, too. Nothing of the program stands here. All or none: the plain law of the replay, cut off by a crash, and done again. Nothing of the program stands here. -/
import Derived.Test.YtjhnaeomaigimaaGreatDoorPlain1
set_option linter.unusedVariables false
namespace Go.Proofs.YtjhnaeomaigimaaGreatDoor
/-- Where a journal goes on. -/
structure Jr where
  seq : Nat
  pos : Int
def Jr.none : Jr := ⟨1, 0⟩
def jrFit (j : Jr) : Bool := decide (1 ≤ j.seq) && (decide (j.seq ≤ 4611686018427387904) && (decide (0 ≤ j.pos) && decide (j.pos ≤ 81)))
def jrPlace (pos size : Int) : Int := if pos < 0 ∨ size < 0 ∨ 81 < size ∨ 81 - size < pos then 0 else pos
theorem jrPlace_bound {pos size : Int} (h0 : 0 ≤ size) (h1 : size ≤ 81) : 0 ≤ jrPlace pos size ∧ jrPlace pos size + size ≤ 81 := by
  unfold jrPlace; split <;> omega
theorem jrFit_iff {j : Jr} : jrFit j = true ↔ 1 ≤ j.seq ∧ j.seq ≤ 4611686018427387904 ∧ 0 ≤ j.pos ∧ j.pos ≤ 81 := by
  simp only [jrFit, Bool.and_eq_true, decide_eq_true_eq]
/-- Sectors as writes, from a place on. -/
def rowsFrom : Int → List (List UInt8) → List (Int × List UInt8)
  | _, [] => []
  | k, s :: l => (k, s) :: rowsFrom (k + 1) l
theorem rowsFrom_length : ∀ (l : List (List UInt8)) (k : Int), (rowsFrom k l).length = l.length := by
  intro l
  induction l with
  | nil => intro k; rfl
  | cons s l ih => intro k; rw [rowsFrom, List.length_cons, List.length_cons, ih]
theorem rowsFrom_get : ∀ (l : List (List UInt8)) (k : Int) (i : Nat) (h : i < l.length), (rowsFrom k l)[i]'(by rw [rowsFrom_length]; exact h) = (k + i, l[i]) := by
  intro l
  induction l with
  | nil => intro k i h; simp at h
  | cons s l ih =>
    intro k i h
    cases i with
    | zero => simp [rowsFrom]
    | succ i =>
      simp only [rowsFrom, List.getElem_cons_succ]
      rw [ih (k + 1) i (by simpa using h)]
      simp only [Prod.mk.injEq, and_true]
      omega
namespace Dk
theorem flush_fit {D : Dk} (h : D.fit = true) : D.flush.1.fit = true := by
  unfold flush
  split
  · exact h
  · split
    · exact fit_of h rfl rfl rfl
    · exact flushed_fit h _
theorem write_fit {D : Dk} (h : D.fit = true) (k : Int) (s : List UInt8) : (D.write k s).1.fit = true := by
  unfold write
  split
  · exact h
  split
  · exact h
  split
  · exact h
  split
  · exact fit_of h rfl rfl rfl
  split
  · exact h
  split
  · exact h
  · rename_i h1 h2 h3 h4 h5 h6
    exact fit_write h (by omega) (by simpa using h2) (by omega)
theorem layIn_fit {l : List (Int × List UInt8)} : ∀ {D : Dk}, D.fit = true → (layIn l D).1.fit = true := by
  induction l with
  | nil => intro D h; exact h
  | cons x l ih =>
    intro D h
    rw [layIn]
    split
    · exact write_fit h _ _
    · exact ih (write_fit h _ _)
/-- What is done next, if nothing fell. -/
def next (X : Dk × Int) (f : Dk → Dk × Int) : Dk × Int := if X.2 ≠ 0 then X else f X.1
theorem next_zero {X : Dk × Int} {f : Dk → Dk × Int} (h : X.2 = 0) : next X f = f X.1 := by unfold next; rw [if_neg (by rw [h]; simp)]
theorem next_err {X : Dk × Int} {f : Dk → Dk × Int} (h : X.2 ≠ 0) : next X f = X := by unfold next; rw [if_pos h]
theorem next_fit {X : Dk × Int} {f : Dk → Dk × Int} (h : X.1.fit = true) (hf : ∀ D : Dk, D.fit = true → (f D).1.fit = true) : (next X f).1.fit = true := by
  unfold next; split
  · exact h
  · exact hf _ h
end Dk
/-- The four steps by which a plan lasts. -/
def comSteps (D : Dk) (k : Int) (l : List (List UInt8)) (L : Pn) : Dk × Int := Dk.next (Dk.next (Dk.next D.flush (Dk.layIn (rowsFrom k l))) Dk.flush) fun E => Pn.lay E L
theorem comSteps_fit {D : Dk} (h : D.fit = true) (k : Int) (l : List (List UInt8)) (L : Pn) : (comSteps D k l L).1.fit = true :=
  Dk.next_fit (Dk.next_fit (Dk.next_fit (Dk.flush_fit h) fun _ => Dk.layIn_fit) fun _ => Dk.flush_fit) fun _ => Dk.layIn_fit
noncomputable def jrRows (j : Jr) (L : Pn) : List (List UInt8) := (⟨j.seq, L⟩ : Tx).write.1
noncomputable def jrAt (j : Jr) (L : Pn) : Int := jrPlace j.pos (jrRows j L).length
noncomputable def jrCommit (D : Dk) (j : Jr) (L : Pn) : Dk × Jr × Int :=
  if L.targets = [] then (D, j, 0) else if 4611686018427387904 ≤ j.seq then (D, j, 10)
  else if (comSteps D (6 + jrAt j L) (jrRows j L) L).2 ≠ 0 then ((comSteps D (6 + jrAt j L) (jrRows j L) L).1, j, (comSteps D (6 + jrAt j L) (jrRows j L) L).2)
  else ((comSteps D (6 + jrAt j L) (jrRows j L) L).1, ⟨j.seq + 1, jrAt j L + (jrRows j L).length⟩, 0)
theorem jrCommit_fit {D : Dk} (h : D.fit = true) (j : Jr) (L : Pn) : (jrCommit D j L).1.fit = true := by
  unfold jrCommit
  split
  · exact h
  split
  · exact h
  split <;> exact comSteps_fit h _ _ _
/-! ### What stands in a journal -/
def jrAll (D : Dk) : List (List UInt8) × Int := allN (fun i : Nat => D.read (6 + (i : Int))) 81
open Classical in
noncomputable def jrIn (l : List (List UInt8)) (n : Int) (i : Nat) : Option (Nat × Tx) :=
  if (txRead (l.drop i)).2 = 0 ∧ ∀ k ∈ (txRead (l.drop i)).1.plan.targets, k < n then some (i, (txRead (l.drop i)).1) else .none
noncomputable def jrFound (l : List (List UInt8)) (n : Int) : List (Nat × Tx) := (List.range 81).filterMap (jrIn l n)
noncomputable def jrScan (D : Dk) : List (Nat × Tx) × Int := if (jrAll D).2 ≠ 0 then ([], (jrAll D).2) else (jrFound (jrAll D).1 D.sz, 0)
/-- The first one with the greatest number. -/
def jrLast : List (Nat × Tx) → Option (Nat × Tx)
  | [] => .none
  | x :: l => match jrLast l with
    | .none => some x
    | some y => if x.2.seq < y.2.seq then some y else some x
/-- The first one with that number less 1. -/
def jrBefore (l : List (Nat × Tx)) (n : Nat) : Option (Nat × Tx) := l.find? fun x => decide (x.2.seq + 1 = n)
def jrSteps (D : Dk) (l : List (Nat × Tx)) : Dk × Int :=
  match jrLast l with
  | .none => (D, 0)
  | some y => match jrBefore l y.2.seq with
    | .none => Pn.lay D y.2.plan
    | some x => Dk.next (Pn.lay D x.2.plan) fun E => Pn.lay E y.2.plan
def jrNext (l : List (Nat × Tx)) : Jr :=
  match jrLast l with
  | .none => Jr.none
  | some y => ⟨min y.2.seq 4611686018427387903 + 1, y.1 + txSize y.2.plan.targets.length⟩
noncomputable def jrReplay (D : Dk) : Dk × Jr × Int :=
  if (jrScan D).2 ≠ 0 then (D, Jr.none, (jrScan D).2)
  else if (Dk.next (jrSteps D (jrScan D).1) Dk.flush).2 ≠ 0 then ((Dk.next (jrSteps D (jrScan D).1) Dk.flush).1, Jr.none, (Dk.next (jrSteps D (jrScan D).1) Dk.flush).2)
  else ((Dk.next (jrSteps D (jrScan D).1) Dk.flush).1, jrNext (jrScan D).1, 0)
/-! ### The newest ones, step by step -/
theorem jrLast_snoc (l : List (Nat × Tx)) (x : Nat × Tx) : jrLast (l ++ [x]) = match jrLast l with
    | .none => some x
    | some y => if y.2.seq < x.2.seq then some x else some y := by
  induction l with
  | nil => rfl
  | cons a l ih =>
    have e : jrLast (a :: l ++ [x]) = match jrLast (l ++ [x]) with
      | .none => some a
      | some y => if a.2.seq < y.2.seq then some y else some a := rfl
    have e2 : jrLast (a :: l) = match jrLast l with
      | .none => some a
      | some y => if a.2.seq < y.2.seq then some y else some a := rfl
    rw [e, ih, e2]
    cases jrLast l with
    | none => rfl
    | some y =>
      simp only
      by_cases h1 : y.2.seq < x.2.seq
      · rw [if_pos h1]
        simp only
        by_cases h2 : a.2.seq < y.2.seq
        · rw [if_pos h2, if_pos (by omega)]
          simp only
          rw [if_pos h1]
        · rw [if_neg h2]
      · rw [if_neg h1]
        simp only
        by_cases h2 : a.2.seq < y.2.seq
        · rw [if_pos h2]
          simp only
          rw [if_neg h1]
        · rw [if_neg h2]
          simp only
          rw [if_neg (by omega)]
theorem jrLast_mem : ∀ {l : List (Nat × Tx)} {y : Nat × Tx}, jrLast l = some y → y ∈ l := by
  intro l
  induction l with
  | nil => intro y h; cases h
  | cons a l ih =>
    intro y h
    have e2 : jrLast (a :: l) = match jrLast l with
      | .none => some a
      | some y => if a.2.seq < y.2.seq then some y else some a := rfl
    rw [e2] at h
    cases hl : jrLast l with
    | none => rw [hl] at h; injection h with h; subst h; exact List.mem_cons_self
    | some z =>
      rw [hl] at h
      simp only at h
      split at h
      · injection h with h; subst h; exact List.mem_cons_of_mem _ (ih hl)
      · injection h with h; subst h; exact List.mem_cons_self
theorem jrLast_none {l : List (Nat × Tx)} (h : jrLast l = .none) : l = [] := by
  cases l with
  | nil => rfl
  | cons a l =>
    exfalso
    have e2 : jrLast (a :: l) = match jrLast l with
      | .none => some a
      | some y => if a.2.seq < y.2.seq then some y else some a := rfl
    rw [e2] at h
    cases hl : jrLast l with
    | none => rw [hl] at h; cases h
    | some z => rw [hl] at h; simp only at h; split at h <;> cases h
end Go.Proofs.YtjhnaeomaigimaaGreatDoor
set_option linter.unusedVariables false
namespace Go.Proofs.YtjhnaeomaigimaaGreatDoor
namespace Dk
theorem layIn_app (P Q : List (Int × List UInt8)) : ∀ (D : Dk), layIn (P ++ Q) D = next (layIn P D) (layIn Q) := by
  induction P with
  | nil => intro D; exact (next_zero (X := (D, 0)) rfl).symm
  | cons x P ih =>
    intro D
    rw [List.cons_append, layIn, layIn]
    split
    · rename_i h; rw [next_err h]
    · exact ih _
theorem layIn_spec : ∀ (P : List (Int × List UInt8)) {D E : Dk}, layIn P D = (E, 0) → E.data = D.data ∧ E.bad = D.bad ∧ E.off = D.off ∧ E.cache = D.cache ++ P ∧ ∀ x ∈ P, D.there x.1 = true ∧ x.1 ∉ D.bad ∧ x.2.length = 64 := by
  intro P
  induction P with
  | nil => intro D E h; injection h with h _; subst h; exact ⟨rfl, rfl, rfl, (List.append_nil _).symm, fun x hx => by cases hx⟩
  | cons x P ih =>
    intro D E h
    rw [layIn] at h
    split at h
    · rename_i h1; rw [h] at h1; exact absurd rfl h1
    · rename_i h1
      obtain ⟨e, h2, h3, h4, h5, _⟩ := write_zero (D := D) (k := x.1) (s := x.2) (by simpa using h1)
      rw [e] at h
      obtain ⟨i1, i2, i3, i4, i5⟩ := ih h
      refine ⟨i1, i2, i3, by rw [i4, put_cache, List.append_assoc]; rfl, fun y hy => ?_⟩
      rcases List.mem_cons.1 hy with rfl | hy
      · exact ⟨h3, h4, h5⟩
      · exact i5 y hy
theorem put_fuse {D : Dk} (h : D.fuse < 0) (k : Int) (s : List UInt8) : (D.put k s).fuse < 0 := by
  show (if 0 < D.fuse then D.fuse - 1 else D.fuse) < 0
  rw [if_neg (by omega)]; exact h
theorem layIn_do : ∀ (P : List (Int × List UInt8)) {D : Dk}, D.off = false → D.fuse < 0 → (∀ x ∈ P, D.there x.1 = true ∧ x.1 ∉ D.bad ∧ x.2.length = 64) → D.cache.length + P.length ≤ 4096 → ∃ E, layIn P D = (E, 0) ∧ E.fuse < 0 := by
  intro P
  induction P with
  | nil => intro D _ h _ _; exact ⟨D, rfl, h⟩
  | cons x P ih =>
    intro D h1 h2 h3 h4
    obtain ⟨a, b, c⟩ := h3 x List.mem_cons_self
    simp only [List.length_cons] at h4
    have e : D.write x.1 x.2 = (D.put x.1 x.2, 0) := by
      unfold write
      rw [if_neg (by rw [h1]; simp), if_neg (by rw [a]; simp), if_neg (by omega), if_neg (by omega), if_neg b, if_neg (by omega)]
      rfl
    rw [layIn, e, if_neg (by simp)]
    exact ih h1 (put_fuse h2 _ _) (fun y hy => h3 y (List.mem_cons_of_mem _ hy)) (by rw [put_cache, List.length_append, List.length_singleton]; omega)
theorem flush_zero {D : Dk} (h : D.flush.2 = 0) : D.off = false ∧ D.flush.1 = ({ D with data := D.last fun _ => true, cache := [] } : Dk).burnt := by
  unfold flush at h ⊢
  split at h
  · simp at h
  rename_i h1
  rw [if_neg h1]
  split at h
  · simp at h
  rename_i h2
  rw [if_neg h2]
  exact ⟨by simpa using h1, rfl⟩
theorem flush_do {D : Dk} (h1 : D.off = false) (h2 : D.fuse < 0) : D.flush = (({ D with data := D.last fun _ => true, cache := [] } : Dk).burnt, 0) := by
  unfold flush; rw [if_neg (by rw [h1]; simp), if_neg (by omega)]
theorem seesIn_app (l m : List (Int × List UInt8)) (k : Int) : seesIn (l ++ m) k = match seesIn m k with
    | some s => some s
    | .none => seesIn l k := by
  induction l with
  | nil => simp only [List.nil_append]; cases seesIn m k <;> rfl
  | cons x l ih =>
    have e : seesIn (x :: l ++ m) k = match seesIn (l ++ m) k with
      | some s => some s
      | .none => if x.1 = k then some x.2 else .none := rfl
    rw [e, ih]
    cases seesIn m k with
    | some s => rfl
    | none => rfl
theorem data_ext {a b : List UInt8} {n : Nat} (ha : a.length = n * 64) (hb : b.length = n * 64) (h : ∀ k, k < n → secOf a k = secOf b k) : a = b := by
  apply List.ext_getElem?
  intro i
  by_cases hi : i < n * 64
  · have e := congrArg (fun l => l[i % 64]?) (h (i / 64) (by omega))
    have hm : i % 64 < 64 := Nat.mod_lt i (by omega)
    rw [secOf_get (by omega) hm, secOf_get (by omega) hm] at e
    rwa [show i / 64 * 64 + i % 64 = i by omega] at e
  · rw [List.getElem?_eq_none (by omega), List.getElem?_eq_none (by omega)]
theorem sees_empty {D : Dk} (h : D.cache = []) (k : Nat) : D.sees k = secOf D.data k := by
  unfold sees; rw [h]; rfl
end Dk
theorem allN_congr {α : Type} {f g : Nat → α × Int} : ∀ {n : Nat}, (∀ i, i < n → f i = g i) → allN f n = allN g n := by
  intro n
  induction n with
  | zero => intro _; rfl
  | succ n ih =>
    intro h
    rw [allN, allN, ih (fun i hi => h i (by omega)), h n (by omega)]
theorem allN_zero {α : Type} {f : Nat → α × Int} : ∀ {n : Nat}, (allN f n).2 = 0 → ∀ i, i < n → (f i).2 = 0 := by
  intro n
  induction n with
  | zero => intro _ i hi; omega
  | succ n ih =>
    intro h i hi
    have e : (allN f (n + 1)).2 = if (allN f n).2 ≠ 0 then (allN f n).2 else (f n).2 := by
      rw [allN]
      split
      · rfl
      · split
        · rfl
        · rename_i h; exact (show (f n).2 = 0 by simpa using h).symm
    rw [e] at h
    split at h
    · rename_i h1; exact absurd h h1
    · rename_i h1
      rcases Nat.lt_or_ge i n with h2 | h2
      · exact ih (by simpa using h1) i h2
      · obtain rfl : i = n := by omega
        exact h
/-- All writes that a replay does. -/
def jrPuts (l : List (Nat × Tx)) : List (Int × List UInt8) :=
  match jrLast l with
  | .none => []
  | some y => (match jrBefore l y.2.seq with
    | .none => []
    | some x => x.2.plan.targets.zip x.2.plan.data) ++ y.2.plan.targets.zip y.2.plan.data
theorem jrSteps_eq (D : Dk) (l : List (Nat × Tx)) : jrSteps D l = Dk.layIn (jrPuts l) D := by
  unfold jrSteps jrPuts
  cases jrLast l with
  | none => rfl
  | some y =>
    simp only
    cases jrBefore l y.2.seq with
    | none => rfl
    | some x => simp only; rw [Dk.layIn_app]; rfl
theorem jrFound_ok {l : List (List UInt8)} {n : Int} {x : Nat × Tx} (h : x ∈ jrFound l n) : x.1 < 81 ∧ (txRead (l.drop x.1)).2 = 0 ∧ x.2 = (txRead (l.drop x.1)).1 ∧ ∀ k ∈ x.2.plan.targets, k < n := by
  unfold jrFound at h
  obtain ⟨i, hi, e⟩ := List.mem_filterMap.1 h
  unfold jrIn at e
  split at e
  · rename_i h1
    injection e with e
    subst e
    exact ⟨List.mem_range.1 hi, h1.1, rfl, h1.2⟩
  · cases e
theorem jrPuts_mem {l : List (Nat × Tx)} {p : Int × List UInt8} (h : p ∈ jrPuts l) : ∃ x ∈ l, p.1 ∈ x.2.plan.targets := by
  unfold jrPuts at h
  cases hl : jrLast l with
  | none => rw [hl] at h; cases h
  | some y =>
    rw [hl] at h
    simp only at h
    rcases List.mem_append.1 h with h | h
    · cases hb : jrBefore l y.2.seq with
      | none => rw [hb] at h; cases h
      | some x =>
        rw [hb] at h
        exact ⟨x, List.mem_of_find?_eq_some hb, (List.of_mem_zip (a := p.1) (b := p.2) h).1⟩
    · exact ⟨y, jrLast_mem hl, (List.of_mem_zip (a := p.1) (b := p.2) h).1⟩
theorem jrPuts_len {l : List (Nat × Tx)} (h : ∀ x ∈ l, x.2.plan.targets.length ≤ 24) : (jrPuts l).length ≤ 48 := by
  unfold jrPuts
  cases hl : jrLast l with
  | none => simp
  | some y =>
    have h1 := h y (jrLast_mem hl)
    simp only [List.length_append, List.length_zip]
    cases hb : jrBefore l y.2.seq with
    | none => simp only [List.length_nil]; omega
    | some x =>
      have h2 := h x (List.mem_of_find?_eq_some hb)
      simp only [List.length_zip]; omega
theorem jrScan_zero {D : Dk} (h : (jrScan D).2 = 0) : (jrAll D).2 = 0 := by
  unfold jrScan at h
  generalize jrAll D = X at *
  by_cases h3 : X.2 = 0
  · exact h3
  · rw [if_pos h3] at h; exact h
/-- A replay done twice is one. -/
theorem jrTwice {D A A' : Dk} {j : Jr} (hf : D.fit = true) (hs : 112 ≤ D.sz) (h : jrReplay D = (A, j, 0)) (hout : ∀ x ∈ (jrScan D).1, ∀ k ∈ x.2.plan.targets, ¬ (6 ≤ k ∧ k < 87))
    (hd : A'.data = A.data) (hc : A'.cache = []) (ho : A'.off = false) (hb : A'.bad = A.bad) (hfu : A'.fuse < 0) :
    A.cache = [] ∧ ∃ B, jrReplay A' = (B, j, 0) ∧ B.data = A.data ∧ B.cache = [] := by
  unfold jrReplay at h
  split at h
  · rename_i h1
    exact absurd (Prod.mk.inj (Prod.mk.inj h).2).2 h1
  rename_i h1
  have h1 : (jrScan D).2 = 0 := by simpa using h1
  split at h
  · rename_i h2
    exact absurd (Prod.mk.inj (Prod.mk.inj h).2).2 h2
  rename_i h2
  have h2 : (Dk.next (jrSteps D (jrScan D).1) Dk.flush).2 = 0 := by simpa using h2
  have hA : (Dk.next (jrSteps D (jrScan D).1) Dk.flush).1 = A := (Prod.mk.inj h).1
  have hj : jrNext (jrScan D).1 = j := (Prod.mk.inj (Prod.mk.inj h).2).1
  -- what was scanned
  have hall : (jrAll D).2 = 0 := jrScan_zero h1
  have hscan : (jrScan D).1 = jrFound (jrAll D).1 D.sz := by unfold jrScan; rw [if_neg (by rw [hall]; simp)]
  have hl24 : ∀ x ∈ (jrScan D).1, x.2.plan.targets.length ≤ 24 := fun x hx => by
    rw [hscan] at hx
    obtain ⟨_, a, b, _⟩ := jrFound_ok hx
    rw [b]; exact (read_len _).1
  have hP48 := jrPuts_len hl24
  have hPout : ∀ p ∈ jrPuts (jrScan D).1, ¬ (6 ≤ p.1 ∧ p.1 < 87) := fun p hp => by
    obtain ⟨x, hx, hk⟩ := jrPuts_mem hp
    exact hout x hx _ hk
  generalize hl : (jrScan D).1 = l at *
  rw [jrSteps_eq] at h2 hA
  generalize hPP : jrPuts l = P at *
  have hE0 : (Dk.layIn P D).2 = 0 := by
    rcases Classical.em ((Dk.layIn P D).2 = 0) with h | h
    · exact h
    · rw [Dk.next_err h] at h2; exact absurd h2 h
  rw [Dk.next_zero hE0] at h2 hA
  obtain ⟨E, hE⟩ : ∃ E, Dk.layIn P D = (E, 0) := ⟨_, Prod.ext rfl hE0⟩
  rw [hE] at h2 hA
  have hEf : E.fit = true := by have := Dk.layIn_fit (l := P) hf; rw [hE] at this; exact this
  obtain ⟨e1, e2, e3, e4, e5⟩ := Dk.layIn_spec P hE
  obtain ⟨fo, fe⟩ := Dk.flush_zero h2
  have hAe : A = ({ E with data := E.last fun _ => true, cache := [] } : Dk).burnt := hA.symm.trans fe
  have hAd : A.data = E.last fun _ => true := by rw [hAe]; rfl
  have hAc : A.cache = [] := by rw [hAe]; rfl
  have hAb : A.bad = D.bad := by rw [hAe, ← e2]; rfl
  refine ⟨hAc, ?_⟩
  have hEsz : E.sz = D.sz := by unfold Dk.sz; rw [e1]
  have hAl : A.data.length = D.sz * 64 := by rw [hAd, ← hEsz]; exact Dk.lastN_length hEf _ _
  have hA's : A'.sz = D.sz := by unfold Dk.sz; rw [hd, hAl]; exact Nat.mul_div_cancel _ (by omega)
  have hth : ∀ k, A'.there k = D.there k := fun k => by unfold Dk.there; rw [hA's]
  have hfA : A.fit = true := by have := Dk.flush_fit hEf; rw [hA] at this; exact this
  have hfA' : A'.fit = true := Dk.fit_of hfA (by rw [hd]) (by rw [hc, hAc]) hb
  -- what is seen
  have hEs : ∀ k : Int, E.sees k = (Dk.seesIn P k).getD (D.sees k) := fun k => by
    unfold Dk.sees
    rw [e4, Dk.seesIn_app]
    cases Dk.seesIn P k with
    | some s => rfl
    | none => unfold Dk.sector; rw [e1]; rfl
  have hAs : ∀ k : Nat, k < D.sz → A'.sees k = E.sees k := fun k hk => by
    rw [Dk.sees_empty hc, hd, hAd]
    exact Dk.last_sees hEf (by rw [hEsz]; exact hk)
  have hread : ∀ i : Nat, i < 81 → A'.read (6 + (i : Int)) = D.read (6 + (i : Int)) := fun i hi => by
    have h0 := allN_zero hall i hi
    have hDr : D.off = false ∧ D.there (6 + (i : Int)) = true ∧ (6 + (i : Int)) ∉ D.bad ∧ D.read (6 + (i : Int)) = (D.sees (6 + (i : Int)), 0) := by
      unfold Dk.read at h0 ⊢
      split at h0
      · simp at h0
      rename_i g1
      rw [if_neg g1]
      split at h0
      · simp at h0
      rename_i g2
      rw [if_neg g2]
      split at h0
      · simp at h0
      rename_i g3
      rw [if_neg g3]
      exact ⟨by simpa using g1, by simpa using g2, g3, rfl⟩
    obtain ⟨a, b, c, d⟩ := hDr
    have hno : Dk.seesIn P (6 + (i : Int)) = .none := Dk.seesIn_none fun q hq e => hPout _ (List.getElem_mem hq) (by omega)
    have hsame : A'.sees (6 + (i : Int)) = D.sees (6 + (i : Int)) := by
      have := hAs (6 + i) (by omega)
      rw [hEs] at this
      rw [show ((6 + i : Nat) : Int) = 6 + (i : Int) by omega, hno] at this
      exact this
    rw [d]
    unfold Dk.read
    rw [if_neg (by rw [ho]; simp), if_neg (by rw [hth, b]; simp), if_neg (by rw [hb, hAb]; exact c), hsame]
  have hall' : jrAll A' = jrAll D := allN_congr hread
  have hscan' : jrScan A' = (l, 0) := by
    unfold jrScan
    rw [hall', if_neg (by rw [hall]; simp), hA's, ← hscan]
  obtain ⟨E', hE', hfu'⟩ := Dk.layIn_do P ho hfu (fun x hx => by rw [hth, hb, hAb]; exact e5 x hx) (by rw [hc]; simp only [List.length_nil]; omega)
  have hE'f : E'.fit = true := by have := Dk.layIn_fit (l := P) hfA'; rw [hE'] at this; exact this
  obtain ⟨g1, g2, g3, g4, g5⟩ := Dk.layIn_spec P hE'
  have hfl := Dk.flush_do (D := E') (g3.trans ho) hfu'
  have hE's : E'.sz = D.sz := by unfold Dk.sz; rw [g1]; exact hA's
  refine ⟨({ E' with data := E'.last fun _ => true, cache := [] } : Dk).burnt, ?_, ?_, rfl⟩
  · unfold jrReplay
    rw [hscan']
    simp only
    rw [jrSteps_eq, hPP, hE', Dk.next_zero rfl, hfl, hj]
    simp
  · show E'.last (fun _ => true) = A.data
    refine Dk.data_ext (n := D.sz) (by rw [← hE's]; exact Dk.lastN_length hE'f _ _) hAl fun k hk => ?_
    rw [Dk.last_sees hE'f (by rw [hE's]; exact hk), hAd, Dk.last_sees hEf (by rw [hEsz]; exact hk)]
    have e : E'.sees k = (Dk.seesIn P k).getD (A'.sees k) := by
      unfold Dk.sees
      rw [g4, Dk.seesIn_app]
      cases Dk.seesIn P k with
      | some s => rfl
      | none => unfold Dk.sector; rw [g1]; rfl
    rw [e]
    cases hc2 : Dk.seesIn P k with
    | some s => rw [hEs, hc2]; rfl
    | none => exact hAs k hk
end Go.Proofs.YtjhnaeomaigimaaGreatDoor
set_option linter.unusedVariables false
namespace Go.Proofs.YtjhnaeomaigimaaGreatDoor
def e7_s : List UInt8 := List.replicate 64 120
def e7_p : Pn := ⟨[5], [e7_s]⟩
def e7_j : Jr := ⟨1, 0⟩
def e7_t : Tx := ⟨1, e7_p⟩
theorem e7_fit : e7_p.Fit := by
  have h := Pn.set_fit Pn.none_fit 5 e7_s
  have e : (Pn.none.set 5 e7_s).1 = e7_p := by kernel_rfl
  rwa [e] at h
theorem e7_ok : e7_t.Ok := ⟨e7_fit, by intro h; cases h⟩
theorem not_magic {s : List UInt8} (h : s[0]? ≠ some 67) : hcount s = 0 := by
  unfold hcount
  rw [if_neg]
  rintro ⟨_, h2, _⟩
  rw [List.isPrefixOf_iff_prefix] at h2
  obtain ⟨t, rfl⟩ := h2
  exact h rfl
theorem read_no_count {l : List (List UInt8)} (h : hcount (l.headD []) = 0) : (txRead l).2 ≠ 0 := fun h0 => (read_ok h0).2.1 h
namespace Dk
theorem next_mk (A : Dk) (f : Dk → Dk × Int) : next (A, 0) f = f A := next_zero rfl
theorem next_mk12 (A : Dk) (f : Dk → Dk × Int) : next (A, 12) f = (A, 12) := next_err (by simp)
end Dk
theorem flush_blank (n : Nat) : (Dk.blank n).flush = (Dk.blank n, 0) := by
  rw [Dk.flush_do rfl (by show (-1 : Int) < 0; omega)]
  rfl
theorem rowsFrom_ats (l : List (List UInt8)) (k : Int) : ∀ x ∈ rowsFrom k l, ∃ i, ∃ h : i < l.length, x = (k + i, l[i]) := by
  intro x hx
  obtain ⟨i, hi, rfl⟩ := List.getElem_of_mem hx
  have hi' : i < l.length := by rwa [rowsFrom_length] at hi
  exact ⟨i, hi', rowsFrom_get l k i hi'⟩
theorem seesIn_rows (l : List (List UInt8)) (k : Int) (i : Nat) (h : i < l.length) : Dk.seesIn (rowsFrom k l) (k + i) = some l[i] := by
  have hi : i < (rowsFrom k l).length := by rw [rowsFrom_length]; exact h
  have e := rowsFrom_get l k i h
  rw [Dk.seesIn_some hi (by rw [e]) (fun j hj hij => ?_), e]
  have hj' : j < l.length := by rwa [rowsFrom_length] at hj
  rw [rowsFrom_get l k j hj']
  show k + (j : Int) ≠ k + (i : Int)
  omega
theorem seesIn_rows_no (l : List (List UInt8)) (k o : Int) (h : o < k ∨ k + l.length ≤ o) : Dk.seesIn (rowsFrom k l) o = .none := by
  refine Dk.seesIn_none fun j hj => ?_
  have hj' : j < l.length := by rwa [rowsFrom_length] at hj
  rw [rowsFrom_get l k j hj']
  show k + (j : Int) ≠ o
  omega
theorem filterMap_first {β : Type} {f : Nat → Option β} {n : Nat} {b : β} (h0 : f 0 = some b) (h : ∀ i, 1 ≤ i → i < n + 1 → f i = .none) : (List.range (n + 1)).filterMap f = [b] := by
  rw [List.range_succ_eq_map, List.filterMap_cons, h0]
  simp only [List.cons.injEq, true_and]
  rw [List.filterMap_eq_nil_iff]
  intro a ha
  obtain ⟨i, hi, rfl⟩ := List.mem_map.1 ha
  exact h _ (by omega) (by have := List.mem_range.1 hi; omega)
theorem e7_rows : e7_t.rows = [e7_t.top, pad64 (nums [5]), e7_s] := rfl
theorem e7_jrRows : jrRows e7_j e7_p = e7_t.rows := by
  unfold jrRows
  show (Tx.write e7_t).1 = _
  unfold Tx.write
  rw [if_pos e7_ok]
theorem e7_at : jrAt e7_j e7_p = 0 := by
  unfold jrAt
  rw [e7_jrRows, e7_rows]
  show jrPlace 0 (3 : Int) = 0
  decide
theorem burnt_fuse {D : Dk} (h : D.fuse < 0) : D.burnt.fuse < 0 := by
  show (if 0 < D.fuse then D.fuse - 1 else D.fuse) < 0
  rw [if_neg (by omega)]; exact h
theorem blank_sector {n k : Nat} (h1 : k < n) : (Dk.blank n).sector k = List.replicate 64 0 := by
  unfold Dk.sector Dk.blank
  simp only [List.take_replicate, List.drop_replicate]
  congr 1
  omega
/-- Behind the example's commit: what stands in the journal. -/
theorem e7 : ∃ G : Dk, jrCommit (Dk.blank 112) e7_j e7_p = (G, ⟨2, 3⟩, 0) ∧ G.fit = true ∧ jrScan G = ([(0, e7_t)], 0) := by
  have hth : ∀ k : Int, 0 ≤ k → k < 112 → (Dk.blank 112).there k = true := fun k h0 h1 => by
    unfold Dk.there; rw [Dk.blank_sz]; simp [h0]; omega
  have hrl : e7_t.rows.length = 3 := rfl
  obtain ⟨E, hE, hEf⟩ := Dk.layIn_do (rowsFrom 6 e7_t.rows) (D := Dk.blank 112) rfl (by show (-1 : Int) < 0; omega) (fun x hx => by
    obtain ⟨i, hi, rfl⟩ := rowsFrom_ats _ _ x hx
    rw [hrl] at hi
    exact ⟨hth _ (by show (0 : Int) ≤ 6 + i; omega) (by show (6 : Int) + i < 112; omega), (fun h => by cases h), Tx.rows_64 e7_ok _ (List.getElem_mem _)⟩) (by rw [rowsFrom_length, hrl]; decide)
  obtain ⟨e1, e2, e3, e4, _⟩ := Dk.layIn_spec _ hE
  have hEfit : E.fit = true := by have := Dk.layIn_fit (l := rowsFrom 6 e7_t.rows) (Dk.blank_fit (n := 112) (by omega) (by omega)); rw [hE] at this; exact this
  have hEsz : E.sz = 112 := by unfold Dk.sz; rw [e1]; exact Dk.blank_sz 112
  have hfl := Dk.flush_do (D := E) (e3.trans rfl) hEf
  obtain ⟨F, hF⟩ : ∃ F, ({ E with data := E.last fun _ => true, cache := [] } : Dk).burnt = F := ⟨_, rfl⟩
  have f1 : F.data = E.last fun _ => true := by rw [← hF]; rfl
  have f2 : F.bad = [] := by rw [← hF]; exact e2
  have f3 : F.off = false := by rw [← hF]; exact e3
  have f4 : F.cache = [] := by rw [← hF]; rfl
  have f5 : F.fuse < 0 := by rw [← hF]; exact burnt_fuse hEf
  have hFsz : F.sz = 112 := by
    unfold Dk.sz; rw [f1, show (E.last fun _ => true).length = E.sz * 64 from Dk.lastN_length hEfit _ _, hEsz]
  have hFfit : F.fit = true := by rw [← hF]; exact Dk.flushed_fit hEfit _
  obtain ⟨G, hG, _⟩ := Dk.layIn_do [((5 : Int), e7_s)] (D := F) f3 f5 (fun x hx => by
    obtain rfl := List.mem_singleton.1 hx
    refine ⟨?_, by rw [f2]; exact (fun h => nomatch h), rfl⟩
    unfold Dk.there; rw [hFsz]; decide) (by rw [f4]; decide)
  obtain ⟨g1, g2, g3, g4, _⟩ := Dk.layIn_spec _ hG
  have hGfit : G.fit = true := by have := Dk.layIn_fit (l := [((5 : Int), e7_s)]) hFfit; rw [hG] at this; exact this
  have hGsz : G.sz = 112 := by unfold Dk.sz; rw [g1]; exact hFsz
  have hc : comSteps (Dk.blank 112) 6 e7_t.rows e7_p = (G, 0) := by
    unfold comSteps
    rw [flush_blank, Dk.next_mk, hE, Dk.next_mk, hfl, hF, Dk.next_mk]
    exact hG
  refine ⟨G, ?_, hGfit, ?_⟩
  · unfold jrCommit
    rw [if_neg (by intro h; cases h), if_neg (by decide), e7_at, e7_jrRows, Int.add_zero, hc, if_neg (by simp)]
    rfl
  have hread : ∀ i : Nat, i < 81 → G.read (6 + (i : Int)) = (e7_t.rows.getD i (List.replicate 64 0), 0) := fun i hi => by
    have ht : G.there (6 + (i : Int)) = true := by unfold Dk.there; rw [hGsz]; simp; omega
    have hs : G.sees (6 + (i : Int)) = e7_t.rows.getD i (List.replicate 64 0) := by
      have h1 : Dk.seesIn G.cache (6 + (i : Int)) = .none := by
        rw [g4, f4]
        refine Dk.seesIn_none fun j hj => ?_
        have : j = 0 := by simp at hj; exact hj
        subst this
        show (5 : Int) ≠ 6 + (i : Int)
        omega
      have h2 := Dk.last_sees hEfit (k := 6 + i) (by rw [hEsz]; omega)
      unfold Dk.sees
      rw [h1, Option.getD_none, Dk.sector_eq, g1, f1, show (6 + (i : Int)).toNat = 6 + i by omega, h2]
      unfold Dk.sees
      rw [e4]
      show (Dk.seesIn (rowsFrom 6 e7_t.rows) ((6 + i : Nat) : Int)).getD _ = _
      rw [show ((6 + i : Nat) : Int) = 6 + (i : Int) by omega]
      rcases Nat.lt_or_ge i 3 with h3 | h3
      · rw [seesIn_rows _ _ i (by rw [hrl]; exact h3), Option.getD_some, List.getD_eq_getElem?_getD, List.getElem?_eq_getElem (by rw [hrl]; exact h3), Option.getD_some]
      · rw [seesIn_rows_no _ _ _ (by rw [hrl]; omega), Option.getD_none, Dk.sector_eq, e1, ← Dk.sector_eq, blank_sector (by omega), List.getD_eq_getElem?_getD, List.getElem?_eq_none (by rw [hrl]; exact h3), Option.getD_none]
    unfold Dk.read
    rw [if_neg (by rw [g3, f3]; simp), if_neg (by rw [ht]; simp), if_neg (by rw [g2, f2]; simp), hs]
  have hall : (jrAll G).2 = 0 := allN_all fun i hi => by rw [hread i hi]
  obtain ⟨hlen, hget⟩ := allN_ok hall
  have hscan : jrScan G = (jrFound (jrAll G).1 G.sz, 0) := by unfold jrScan; rw [if_neg (by rw [hall]; simp)]
  change (jrAll G).1.length = 81 at hlen
  have hget : ∀ i : Nat, i < 81 → (jrAll G).1[i]? = some (e7_t.rows.getD i (List.replicate 64 0)) := fun i hi => by
    have h := (hget i hi).2
    rw [hread i hi] at h
    exact h
  rw [hscan]
  generalize (jrAll G).1 = R at *
  have hR3 : R = e7_t.rows ++ R.drop 3 := by
    have h3 : R.take 3 = e7_t.rows := ?_
    · conv => lhs; rw [← List.take_append_drop 3 R, h3]
    apply List.ext_getElem?
    intro i
    rcases Nat.lt_or_ge i 3 with h3 | h3
    · rw [List.getElem?_take, if_pos h3, hget i (by omega), List.getD_eq_getElem?_getD, List.getElem?_eq_getElem (by rw [hrl]; exact h3), Option.getD_some]
    · rw [List.getElem?_eq_none (by rw [List.length_take]; omega), List.getElem?_eq_none (by rw [hrl]; exact h3)]
  have hread0 : txRead R = (e7_t, 0) := by rw [hR3]; exact Tx.read_rows e7_ok (by decide) _
  have hno : ∀ i, 1 ≤ i → i < 80 + 1 → hcount ((R.drop i).headD []) = 0 := fun i h1 h2 => by
    have hi : i < R.length := by rw [hlen]; exact h2
    have e := hget i h2
    rw [List.getElem?_eq_getElem hi] at e
    have e := Option.some.inj e
    rw [List.drop_eq_getElem_cons hi, List.headD_cons, e]
    apply not_magic
    rcases Nat.lt_or_ge i 3 with h3 | h3
    · have : i = 1 ∨ i = 2 := by omega
      rcases this with rfl | rfl
      · rw [e7_rows]; decide
      · rw [e7_rows]; decide
    · have h5 : e7_t.rows[i]? = .none := List.getElem?_eq_none (by rw [hrl]; exact h3)
      rw [List.getD_eq_getElem?_getD, h5, Option.getD_none]; decide
  have hff : jrFound R G.sz = [(0, e7_t)] := by
    unfold jrFound
    refine filterMap_first (n := 80) (f := jrIn R G.sz) (b := (0, e7_t)) ?_ fun i h1 h2 => ?_
    · unfold jrIn
      rw [List.drop_zero, hread0]
      refine if_pos ⟨rfl, fun k hk => ?_⟩
      obtain rfl : k = 5 := List.mem_singleton.1 hk
      rw [hGsz]; decide
    · unfold jrIn
      rw [if_neg]
      rintro ⟨h, _⟩
      exact read_no_count (hno i h1 h2) h
  rw [hff]
end Go.Proofs.YtjhnaeomaigimaaGreatDoor
set_option linter.unusedVariables false
namespace Go.Proofs.YtjhnaeomaigimaaGreatDoor
namespace Dk
/-- Writes that can be done on a device. -/
def Can (D : Dk) (P : List (Int × List UInt8)) : Prop := ∀ x ∈ P, D.there x.1 = true ∧ x.1 ∉ D.bad ∧ x.2.length = 64
theorem Can.of {D E : Dk} {P : List (Int × List UInt8)} (h : D.Can P) (h1 : E.data.length = D.data.length) (h2 : E.bad = D.bad) : E.Can P := fun x hx => by
  obtain ⟨a, b, c⟩ := h x hx
  have e : E.sz = D.sz := by unfold sz; rw [h1]
  exact ⟨by unfold there at a ⊢; rw [e]; exact a, by rw [h2]; exact b, c⟩
/-- Writes, up to a cut. -/
theorem layIn_cut : ∀ (P : List (Int × List UInt8)) {D : Dk}, D.off = false → D.Can P → D.cache.length + P.length ≤ 4096 →
    ∃ E e m, layIn P D = (E, e) ∧ m ≤ P.length ∧ E.data = D.data ∧ E.bad = D.bad ∧ E.cache = D.cache ++ P.take m ∧ (e = 0 ∨ e = 12) ∧ (e = 0 → m = P.length ∧ E.off = false) := by
  intro P
  induction P with
  | nil => intro D h1 _ _; exact ⟨D, 0, 0, rfl, Nat.le_refl _, rfl, rfl, (List.append_nil _).symm, .inl rfl, fun _ => ⟨rfl, h1⟩⟩
  | cons x P ih =>
    intro D h1 h3 h4
    obtain ⟨a, b, c⟩ := h3 x List.mem_cons_self
    simp only [List.length_cons] at h4
    by_cases hfu : D.fuse = 0
    · have e : D.write x.1 x.2 = ({ D with off := true }, 12) := by
        unfold write
        rw [if_neg (by rw [h1]; simp), if_neg (by rw [a]; simp), if_neg (by omega), if_pos hfu]
      refine ⟨{ D with off := true }, 12, 0, ?_, Nat.zero_le _, rfl, rfl, (List.append_nil _).symm, .inr rfl, (fun h => absurd h (by decide))⟩
      rw [layIn, e, if_pos (by simp)]
    · have e : D.write x.1 x.2 = (D.put x.1 x.2, 0) := by
        unfold write
        rw [if_neg (by rw [h1]; simp), if_neg (by rw [a]; simp), if_neg (by omega), if_neg hfu, if_neg b, if_neg (by omega)]
        rfl
      obtain ⟨E, e', m, i1, i2, i3, i4, i5, i6, i7⟩ := ih (D := D.put x.1 x.2) h1 (fun y hy => h3 y (List.mem_cons_of_mem _ hy)) (by rw [put_cache, List.length_append, List.length_singleton]; omega)
      refine ⟨E, e', m + 1, ?_, by rw [List.length_cons]; omega, i3, i4, ?_, i6, fun h => ⟨by rw [(i7 h).1]; rfl, (i7 h).2⟩⟩
      · rw [layIn, e, if_neg (by simp)]; exact i1
      · rw [i5, put_cache, List.append_assoc]; rfl
theorem flush_cut {D : Dk} (h : D.off = false) : (D.flush = ({ D with off := true }, 12)) ∨ ∃ E, D.flush = (E, 0) ∧ E.data = (D.last fun _ => true) ∧ E.cache = [] ∧ E.bad = D.bad ∧ E.off = false := by
  rcases flush_cases D h with e | e
  · exact .inl e
  · exact .inr ⟨_, e, rfl, rfl, rfl, h⟩
theorem last_nil {D : Dk} (h : D.cache = []) (keep : Nat → Bool) : D.last keep = D.data := by
  unfold last; rw [h]; rfl
/-- Sectors behind a crash. -/
theorem crash_sec {E : Dk} (hf : E.fit = true) (keep : Nat → Bool) {k : Nat} (hk : k < E.sz) : (E.crash keep).sees k = E.sector k ∨ ∃ x ∈ E.cache, x.1 = k ∧ (E.crash keep).sees k = x.2 := by
  rw [sees_empty (D := E.crash keep) rfl k]
  show secOf (E.last keep) k = _ ∨ _
  rcases lastN_some hf hk keep E.cache.length (Nat.le_refl _) with h | ⟨i, hi, h1, h2⟩
  · exact .inl h
  · exact .inr ⟨_, List.getElem_mem hi, h1, h2.symm⟩
theorem crash_fit {E : Dk} (hf : E.fit = true) (keep : Nat → Bool) : (E.crash keep).fit = true := by
  refine fit_drop hf ?_ rfl rfl
  show (E.last keep).length = _
  obtain ⟨_, _, hl, _⟩ := fit_parts hf
  rw [hl]; exact lastN_length hf keep _
theorem crash_sz {E : Dk} (hf : E.fit = true) (keep : Nat → Bool) : (E.crash keep).sz = E.sz := by
  have : (E.last keep).length = E.sz * 64 := lastN_length hf keep _
  show (E.last keep).length / 64 = E.sz
  rw [this]; exact Nat.mul_div_cancel _ (by omega)
theorem sees_get (D : Dk) (P : List (Int × List UInt8)) {E : Dk} (h1 : E.data = D.data) (h2 : E.cache = D.cache ++ P) (k : Int) : E.sees k = (seesIn P k).getD (D.sees k) := by
  unfold sees
  rw [h2, seesIn_app]
  cases seesIn P k with
  | some s => rfl
  | none => unfold sector; rw [h1]; rfl
theorem flushed_sees {D E : Dk} (hf : D.fit = true) (h1 : E.data = (D.last fun _ => true)) (h2 : E.cache = []) {k : Nat} (hk : k < D.sz) : E.sees k = D.sees k := by
  rw [sees_empty h2, h1, last_sees hf hk]
theorem sees_sector {E : Dk} (h2 : E.cache = []) (k : Nat) : E.sees k = E.sector k := by rw [sees_empty h2, sector_eq]
end Dk
open Dk
/-- How the four steps may end. -/
theorem comSteps_cut {D : Dk} (hf : D.fit = true) (ho : D.off = false) (k : Int) (R : List (List UInt8)) (M : Pn) (hR : D.Can (rowsFrom k R)) (hM : D.Can (M.targets.zip M.data)) (hl : R.length ≤ 27) (hm : M.targets.length ≤ 24) :
    ∃ E e, comSteps D k R M = (E, e) ∧ (e = 0 ∨ e = 12) ∧ E.bad = D.bad ∧ E.data.length = D.data.length ∧ (e = 0 → E.off = false) ∧
      ((e ≠ 0 ∧ E.data = D.data ∧ E.cache = D.cache) ∨
       (e ≠ 0 ∧ (∀ i : Nat, i < D.sz → E.sector i = D.sees i) ∧ ∀ x ∈ E.cache, x ∈ rowsFrom k R) ∨
       ((∀ i : Nat, i < D.sz → E.sector i = (seesIn (rowsFrom k R) i).getD (D.sees i)) ∧ ∃ n, E.cache = (M.targets.zip M.data).take n ∧ (e = 0 → n = (M.targets.zip M.data).length))) := by
  unfold comSteps
  rcases flush_cut ho with e | ⟨A, e, a1, a2, a3, a4⟩
  · rw [e, next_mk12, next_mk12, next_mk12]
    exact ⟨_, _, rfl, .inr rfl, rfl, rfl, (fun h => absurd h (by decide)), .inl ⟨by decide, rfl, rfl⟩⟩
  rw [e, next_mk]
  have hAf : A.fit = true := by have := flush_fit hf; rw [e] at this; exact this
  have hAl : A.data.length = D.data.length := by
    obtain ⟨_, _, hl, _⟩ := fit_parts hf
    rw [a1, hl]; exact lastN_length hf _ _
  have hAsz : A.sz = D.sz := by unfold sz; rw [hAl]
  have hAs : ∀ i : Nat, i < D.sz → A.sees i = D.sees i := fun i hi => flushed_sees hf a1 a2 hi
  obtain ⟨B, eb, m, b1, b2, b3, b4, b5, b6, b7⟩ := layIn_cut (rowsFrom k R) (D := A) a4 (hR.of hAl a3) (by rw [a2, rowsFrom_length]; simp only [List.length_nil]; omega)
  rw [a2, List.nil_append] at b5
  show ∃ E e, next (next (layIn (rowsFrom k R) A) flush) _ = (E, e) ∧ _
  rw [b1]
  by_cases hb0 : eb = 0
  · obtain ⟨b8, b9⟩ := b7 hb0
    rw [next_zero (X := (B, eb)) hb0]
    have hBf : B.fit = true := by have := layIn_fit (l := rowsFrom k R) hAf; rw [b1] at this; exact this
    have hBl : B.data.length = D.data.length := by rw [b3, hAl]
    have hBsz : B.sz = D.sz := by unfold sz; rw [hBl]
    have b5 : B.cache = rowsFrom k R := by rw [b5, b8, List.take_length]
    rcases flush_cut b9 with e2 | ⟨G, e2, g1, g2, g3, g4⟩
    · show ∃ E e, next (flush B) _ = (E, e) ∧ _
      rw [e2, next_mk12]
      refine ⟨_, _, rfl, .inr rfl, b4.trans a3, hBl, (fun h => absurd h (by decide)), .inr (.inl ⟨by decide, fun i hi => ?_, fun x hx => ?_⟩)⟩
      · rw [← hAs i hi, sees_sector a2]
        show B.sector i = _
        rw [sector_eq, sector_eq, b3]
      · have : x ∈ B.cache := hx
        rwa [b5] at this
    · show ∃ E e, next (flush B) _ = (E, e) ∧ _
      rw [e2, next_mk]
      have hGs : ∀ i : Nat, i < D.sz → G.sector i = (seesIn (rowsFrom k R) i).getD (D.sees i) := fun i hi => by
        rw [← sees_sector g2, flushed_sees hBf g1 g2 (by rw [hBsz]; exact hi), sees_get A (rowsFrom k R) b3 (by rw [a2]; exact b5), hAs i hi]
      have hGl : G.data.length = D.data.length := by
        obtain ⟨_, _, hl, _⟩ := fit_parts hBf
        rw [g1, ← hBl, hl]; exact lastN_length hBf _ _
      obtain ⟨E, ee, n, i1, i2, i3, i4, i5, i6, i7⟩ := layIn_cut (M.targets.zip M.data) (D := G) g4 (hM.of hGl (g3.trans (b4.trans a3))) (by rw [g2, List.length_zip]; simp only [List.length_nil]; omega)
      refine ⟨E, ee, i1, i6, i4.trans (g3.trans (b4.trans a3)), by rw [i3, hGl], fun h => (i7 h).2, .inr (.inr ⟨fun i hi => ?_, n, by rw [i5, g2]; rfl, fun h => (i7 h).1⟩)⟩
      rw [← hGs i hi, sector_eq, sector_eq, i3]
  · rw [next_err (X := (B, eb)) hb0, next_err (X := (B, eb)) hb0]
    refine ⟨_, _, rfl, b6, b4.trans a3, by rw [b3, hAl], fun h => absurd h hb0, .inr (.inl ⟨hb0, fun i hi => ?_, fun x hx => ?_⟩)⟩
    · rw [← hAs i hi, sees_sector a2, sector_eq, sector_eq, b3]
    · rw [b5] at hx; exact List.mem_of_mem_take hx
/-- With no fuse all is done. -/
theorem comSteps_do {D : Dk} (hf : D.fit = true) (ho : D.off = false) (hfu : D.fuse < 0) (k : Int) (R : List (List UInt8)) (M : Pn) (hR : D.Can (rowsFrom k R)) (hM : D.Can (M.targets.zip M.data)) (hl : R.length ≤ 27) (hm : M.targets.length ≤ 24) :
    (comSteps D k R M).2 = 0 ∧ (comSteps D k R M).1.fuse < 0 := by
  unfold comSteps
  have e := flush_do ho hfu
  obtain ⟨A, hA⟩ : ∃ A, ({ D with data := D.last fun _ => true, cache := [] } : Dk).burnt = A := ⟨_, rfl⟩
  rw [hA] at e
  have a1 : A.data = D.last fun _ => true := by rw [← hA]; rfl
  have a2 : A.cache = [] := by rw [← hA]; rfl
  have a3 : A.bad = D.bad := by rw [← hA]; rfl
  have a4 : A.off = false := by rw [← hA]; exact ho
  have a5 : A.fuse < 0 := by rw [← hA]; exact burnt_fuse hfu
  have hAf : A.fit = true := by have := flush_fit hf; rw [e] at this; exact this
  have hAl : A.data.length = D.data.length := by
    obtain ⟨_, _, hl, _⟩ := fit_parts hf
    rw [a1, hl]; exact lastN_length hf _ _
  rw [e, next_mk]
  obtain ⟨B, b1, b2⟩ := layIn_do (rowsFrom k R) a4 a5 (hR.of hAl a3) (by rw [a2, rowsFrom_length]; simp only [List.length_nil]; omega)
  obtain ⟨b3, b4, b5, b6, _⟩ := layIn_spec _ b1
  have hBf : B.fit = true := by have := layIn_fit (l := rowsFrom k R) hAf; rw [b1] at this; exact this
  show (next (next (layIn (rowsFrom k R) A) flush) _).2 = 0 ∧ (next (next (layIn (rowsFrom k R) A) flush) _).1.fuse < 0
  rw [b1, next_mk]
  have e2 := flush_do (b5.trans a4) b2
  obtain ⟨G, hG⟩ : ∃ G, ({ B with data := B.last fun _ => true, cache := [] } : Dk).burnt = G := ⟨_, rfl⟩
  rw [hG] at e2
  show (next (flush B) _).2 = 0 ∧ (next (flush B) _).1.fuse < 0
  rw [e2, next_mk]
  have g1 : G.data = B.last fun _ => true := by rw [← hG]; rfl
  have hGl : G.data.length = D.data.length := by
    obtain ⟨_, _, hl, _⟩ := fit_parts hBf
    rw [g1, ← hAl, ← b3, hl]; exact lastN_length hBf _ _
  obtain ⟨E, i1, i2⟩ := layIn_do (M.targets.zip M.data) (D := G) (by rw [← hG]; exact b5.trans a4) (by rw [← hG]; exact burnt_fuse b2) (hM.of hGl (by rw [← hG]; exact b4.trans a3)) (by rw [← hG, List.length_zip]; simp only [burnt_cache, List.length_nil]; omega)
  have i1' : Pn.lay G M = (E, 0) := i1
  show (Pn.lay G M).2 = 0 ∧ (Pn.lay G M).1.fuse < 0
  rw [i1']
  exact ⟨rfl, i2⟩
/-- The scan of a quiet device. -/
structure Quiet (D : Dk) : Prop where
  off : D.off = false
  bad : D.bad = []
  fit : D.fit = true
  big : 112 ≤ D.sz
theorem Quiet.read {D : Dk} (h : Quiet D) {k : Nat} (hk : k < D.sz) : D.read (k : Int) = (D.sees k, 0) := by
  have ht : D.there (k : Int) = true := by unfold there; simp; omega
  unfold Dk.read
  rw [if_neg (by rw [h.off]; simp), if_neg (by rw [ht]; simp), if_neg (by rw [h.bad]; simp)]
theorem Quiet.all {D : Dk} (h : Quiet D) : (jrAll D).2 = 0 ∧ (jrAll D).1.length = 81 ∧ ∀ i : Nat, i < 81 → (jrAll D).1[i]? = some (D.sees ((6 + i : Nat) : Int)) := by
  have hb := h.big
  have hr : ∀ i : Nat, i < 81 → D.read (6 + (i : Int)) = (D.sees ((6 + i : Nat) : Int), 0) := fun i hi => by
    rw [show (6 + (i : Int)) = ((6 + i : Nat) : Int) by omega]
    exact h.read (by omega)
  have h0 : (jrAll D).2 = 0 := allN_all fun i hi => by rw [hr i hi]
  obtain ⟨h1, h2⟩ := allN_ok h0
  refine ⟨h0, h1, fun i hi => ?_⟩
  have := (h2 i hi).2
  rwa [hr i hi] at this
theorem Quiet.scan {D : Dk} (h : Quiet D) : jrScan D = (jrFound (jrAll D).1 D.sz, 0) := by
  unfold jrScan; rw [if_neg (by rw [h.all.1]; simp)]
theorem Quiet.scan_congr {D E : Dk} (h : Quiet D) (h' : Quiet E) (hs : E.sz = D.sz) (he : ∀ k : Nat, 6 ≤ k → k < 87 → E.sees k = D.sees k) : jrScan E = jrScan D := by
  have : (jrAll E).1 = (jrAll D).1 := by
    apply List.ext_getElem?
    intro i
    rcases Nat.lt_or_ge i 81 with hi | hi
    · rw [h.all.2.2 i hi, h'.all.2.2 i hi, he _ (by omega) (by omega)]
    · rw [List.getElem?_eq_none (by rw [h'.all.2.1]; exact hi), List.getElem?_eq_none (by rw [h.all.2.1]; exact hi)]
  rw [h.scan, h'.scan, this, hs]
/-- A record that stands in a journal is found. -/
theorem Quiet.found {D : Dk} (h : Quiet D) {t : Tx} (ht : t.Ok) (hs : t.seq < 18446744073709551616) (htg : ∀ k ∈ t.plan.targets, k < (D.sz : Int)) {a : Nat} (ha : a + t.rows.length ≤ 81) (hr : ∀ i (hi : i < t.rows.length), D.sees ((6 + a + i : Nat) : Int) = t.rows[i]) : (a, t) ∈ (jrScan D).1 := by
  obtain ⟨_, h1, h2⟩ := h.all
  have hm : (jrScan D).1 = jrFound (jrAll D).1 D.sz := by rw [h.scan]
  rw [hm]
  obtain ⟨R, hR⟩ : ∃ R, (jrAll D).1 = R := ⟨_, rfl⟩
  rw [hR] at h1 h2 ⊢
  have h0 : 0 < t.rows.length := by simp [Tx.rows]
  have hd : R.drop a = t.rows ++ R.drop (a + t.rows.length) := by
    apply List.ext_getElem?
    intro i
    rw [List.getElem?_drop]
    rcases Nat.lt_or_ge i t.rows.length with hi | hi
    · rw [List.getElem?_append_left hi, h2 _ (by omega), List.getElem?_eq_getElem hi, ← hr i hi, Nat.add_assoc]
    · rw [List.getElem?_append_right hi, List.getElem?_drop]
      rw [show a + t.rows.length + (i - t.rows.length) = a + i by omega]
  have he : txRead (R.drop a) = (t, 0) := by rw [hd]; exact Tx.read_rows ht hs _
  unfold jrFound
  refine List.mem_filterMap.2 ⟨a, List.mem_range.2 (by omega), ?_⟩
  unfold jrIn
  rw [he, if_pos ⟨rfl, htg⟩]
/-- A replay, up to a cut: what was done. -/
theorem replay_cut {C : Dk} (h : Quiet C) (hc : C.cache = []) (hP : C.Can (jrPuts (jrScan C).1)) (hl : (jrPuts (jrScan C).1).length ≤ 48) :
    ∃ E j e, jrReplay C = (E, j, e) ∧ E.bad = [] ∧ E.data.length = C.data.length ∧
      ((E.data = C.data ∧ ∃ n, E.cache = (jrPuts (jrScan C).1).take n) ∨ (E.cache = [] ∧ ∀ k : Nat, k < C.sz → E.sees k = (seesIn (jrPuts (jrScan C).1) k).getD (C.sees k))) := by
  have hs0 : (jrScan C).2 = 0 := by rw [h.scan]
  unfold jrReplay
  rw [if_neg (by rw [hs0]; simp), jrSteps_eq]
  generalize hPe : jrPuts (jrScan C).1 = P at *
  obtain ⟨B, eb, m, b1, b2, b3, b4, b5, b6, b7⟩ := layIn_cut P h.off hP (by rw [hc]; simp only [List.length_nil]; omega)
  rw [hc, List.nil_append] at b5
  rw [b1]
  by_cases hb0 : eb = 0
  · obtain ⟨b8, b9⟩ := b7 hb0
    have hBf : B.fit = true := by have := layIn_fit (l := P) h.fit; rw [b1] at this; exact this
    rw [next_zero (X := (B, eb)) hb0]
    rcases flush_cut b9 with e2 | ⟨G, e2, g1, g2, g3, g4⟩
    · rw [e2, if_pos (by simp)]
      exact ⟨_, _, _, rfl, b4.trans h.bad, by show B.data.length = _; rw [b3], .inl ⟨b3, _, b5⟩⟩
    · rw [e2, if_neg (by simp)]
      have hBsz : B.sz = C.sz := by unfold sz; rw [b3]
      refine ⟨_, _, _, rfl, g3.trans (b4.trans h.bad), ?_, .inr ⟨g2, fun k hk => ?_⟩⟩
      · obtain ⟨_, _, hl, _⟩ := fit_parts hBf
        show G.data.length = _
        rw [g1, ← b3, hl]; exact lastN_length hBf _ _
      · rw [flushed_sees hBf g1 g2 (by rw [hBsz]; exact hk)]
        exact sees_get C P b3 (by rw [hc, b5, b8, List.take_length]; rfl) k
  · rw [next_err (X := (B, eb)) hb0, if_pos hb0]
    exact ⟨_, _, _, rfl, b4.trans h.bad, by show B.data.length = _; rw [b3], .inl ⟨b3, _, b5⟩⟩
/-- With no fuse it is done. -/
theorem replay_do {C : Dk} (h : Quiet C) (hc : C.cache = []) (hfu : C.fuse < 0) (hP : C.Can (jrPuts (jrScan C).1)) (hl : (jrPuts (jrScan C).1).length ≤ 48) :
    ∃ E j, jrReplay C = (E, j, 0) ∧ E.fit = true ∧ E.sz = C.sz ∧ ∀ k : Nat, k < C.sz → E.sees k = (seesIn (jrPuts (jrScan C).1) k).getD (C.sees k) := by
  have hs0 : (jrScan C).2 = 0 := by rw [h.scan]
  unfold jrReplay
  rw [if_neg (by rw [hs0]; simp), jrSteps_eq]
  generalize hPe : jrPuts (jrScan C).1 = P at *
  obtain ⟨B, b1, b2⟩ := layIn_do P h.off hfu hP (by rw [hc]; simp only [List.length_nil]; omega)
  obtain ⟨b3, b4, b5, b6, _⟩ := layIn_spec _ b1
  have hBf : B.fit = true := by have := layIn_fit (l := P) h.fit; rw [b1] at this; exact this
  have hBsz : B.sz = C.sz := by unfold sz; rw [b3]
  have e2 := flush_do (b5.trans h.off) b2
  obtain ⟨G, hG⟩ : ∃ G, ({ B with data := B.last fun _ => true, cache := [] } : Dk).burnt = G := ⟨_, rfl⟩
  rw [hG] at e2
  have g1 : G.data = B.last fun _ => true := by rw [← hG]; rfl
  have g2 : G.cache = [] := by rw [← hG]; rfl
  have hGf : G.fit = true := by have := flush_fit hBf; rw [e2] at this; exact this
  rw [b1, next_mk]
  show ∃ E j, (if (flush B).2 ≠ 0 then ((flush B).1, Jr.none, (flush B).2) else ((flush B).1, jrNext (jrScan C).1, 0)) = (E, j, 0) ∧ _
  rw [e2, if_neg (by simp)]
  refine ⟨_, _, rfl, hGf, ?_, fun k hk => ?_⟩
  · show G.data.length / 64 = _
    have : (B.last fun _ => true).length = B.sz * 64 := lastN_length hBf _ _
    rw [g1, this, hBsz]; exact Nat.mul_div_cancel _ (by omega)
  · rw [flushed_sees hBf g1 g2 (by rw [hBsz]; exact hk)]
    exact sees_get C P b3 b6 k
end Go.Proofs.YtjhnaeomaigimaaGreatDoor
set_option linter.unusedVariables false
namespace Go.Proofs.YtjhnaeomaigimaaGreatDoor
open Dk
/-- Targets on a device, none in the journal. -/
def Outside (n : Nat) (L : Pn) : Prop := ∀ k ∈ L.targets, ¬ (6 ≤ k ∧ k < 87) ∧ k < (n : Int)
theorem Pn.Fit.zip_can {L : Pn} (h : L.Fit) {D : Dk} (ho : Outside D.sz L) (hb : D.bad = []) : D.Can (L.targets.zip L.data) := fun x hx => by
  obtain ⟨h1, h2⟩ := List.of_mem_zip (a := x.1) (b := x.2) hx
  obtain ⟨i, hi, e⟩ := List.getElem_of_mem h1
  obtain ⟨j, hj, e2⟩ := List.getElem_of_mem h2
  have hs := (h.2.2.1 i hi).1
  rw [e] at hs
  simp only [sectorOk, Bool.and_eq_true, decide_eq_true_eq] at hs
  have hk := ho x.1 h1
  refine ⟨?_, by rw [hb]; exact (fun h => nomatch h), by rw [← e2]; exact h.2.2.2 j hj⟩
  unfold there
  simp only [Bool.and_eq_true, decide_eq_true_eq]
  exact ⟨hs.1, hk.2⟩
theorem zip_none {L : Pn} {k : Int} (h : k ∉ L.targets) : seesIn (L.targets.zip L.data) k = .none := by
  refine seesIn_none fun j hj e => h ?_
  rw [List.getElem_zip] at e
  have hj' : j < L.targets.length := by rw [List.length_zip] at hj; omega
  have e : L.targets[j] = k := e
  rw [← e]
  exact List.getElem_mem hj'
theorem zip_some {L : Pn} (hL : L.Fit) {k : Int} (h : k ∈ L.targets) : seesIn (L.targets.zip L.data) k = some (L.data.getD (L.targets.idxOf k) []) := by
  have hi := List.idxOf_lt_length_iff.2 h
  have hd : L.targets.idxOf k < L.data.length := by have := hL.1; omega
  have hz : L.targets.idxOf k < (L.targets.zip L.data).length := by rw [List.length_zip]; omega
  rw [seesIn_some hz (by rw [List.getElem_zip]; exact List.getElem_idxOf hi) fun j hj hij e => ?_]
  · rw [List.getElem_zip, List.getD_eq_getElem?_getD, List.getElem?_eq_getElem hd]; rfl
  · rw [List.getElem_zip] at e
    have hj' : j < L.targets.length := by rw [List.length_zip] at hj; omega
    have e : L.targets[j] = k := e
    have hn := List.nodup_iff_pairwise_ne.1 hL.nodup
    rw [List.pairwise_iff_getElem] at hn
    exact hn _ _ hi hj' hij (by rw [e, List.getElem_idxOf hi])
theorem mem_zip_target {L : Pn} {x : Int × List UInt8} (h : x ∈ L.targets.zip L.data) : x.1 ∈ L.targets := (List.of_mem_zip (a := x.1) (b := x.2) h).1
/-- Behind the first plan. -/
structure First (D D1 : Dk) (L : Pn) (j1 : Jr) : Prop where
  quiet : Quiet D1
  sz : D1.sz = D.sz
  cache : D1.cache = L.targets.zip L.data
  out : ∀ k : Nat, k < D.sz → ¬ (6 ≤ k ∧ k < 87) → D1.sector k = D.sees k
  fit : jrFit j1 = true
  pos : j1.pos ≤ 27
  none : L.targets = [] → j1 = ⟨1, 0⟩
  some : L.targets ≠ [] → j1.seq = 2 ∧ j1.pos = (jrRows ⟨1, 0⟩ L).length ∧ ∀ i (h : i < (jrRows ⟨1, 0⟩ L).length), D1.sector (6 + i) = (jrRows ⟨1, 0⟩ L)[i]
theorem rows_can {D : Dk} (h : Quiet D) {j : Jr} {L : Pn} (hL : L.Fit) (h0 : L.targets ≠ []) : D.Can (rowsFrom (6 + jrAt j L) (jrRows j L)) := fun x hx => by
  obtain ⟨i, hi, rfl⟩ := rowsFrom_ats _ _ x hx
  have hok : (⟨j.seq, L⟩ : Tx).Ok := ⟨hL, h0⟩
  have e : jrRows j L = (⟨j.seq, L⟩ : Tx).rows := by unfold jrRows Tx.write; rw [if_pos hok]
  have hl : (jrRows j L).length ≤ 27 := write_len _
  have hat : 0 ≤ jrAt j L ∧ jrAt j L + (jrRows j L).length ≤ 81 := jrPlace_bound (by omega) (by omega)
  have hb := h.big
  refine ⟨?_, by rw [h.bad]; exact (fun h => nomatch h), ?_⟩
  · unfold there
    simp only [Bool.and_eq_true, decide_eq_true_eq]
    omega
  · show (jrRows j L)[i].length = 64
    have := Tx.rows_64 hok (jrRows j L)[i] (by rw [← e]; exact List.getElem_mem hi)
    exact this
theorem first {D : Dk} (h : Quiet D) (hc : D.cache = []) (hfu : D.fuse < 0) {L : Pn} (hL : L.Fit) (ho : Outside D.sz L) : ∃ D1 j1, jrCommit D ⟨1, 0⟩ L = (D1, j1, 0) ∧ First D D1 L j1 := by
  by_cases h0 : L.targets = []
  · refine ⟨D, ⟨1, 0⟩, by unfold jrCommit; rw [if_pos h0], h, rfl, by rw [hc, h0]; rfl, fun k _ _ => (sees_sector hc k).symm, by decide, by decide, fun _ => rfl, fun hn => absurd h0 hn⟩
  have hl : (jrRows ⟨1, 0⟩ L).length ≤ 27 := write_len _
  have hat : jrAt ⟨1, 0⟩ L = 0 := by
    unfold jrAt jrPlace
    split
    · rfl
    · rfl
  have hcr := rows_can h (j := ⟨1, 0⟩) hL h0
  have hcz := hL.zip_can ho h.bad
  obtain ⟨E, e, c1, c2, c3, c8, c4, c5⟩ := comSteps_cut h.fit h.off (6 + jrAt ⟨1, 0⟩ L) (jrRows ⟨1, 0⟩ L) L hcr hcz hl hL.2.1
  obtain ⟨d1, d2⟩ := comSteps_do h.fit h.off hfu (6 + jrAt ⟨1, 0⟩ L) (jrRows ⟨1, 0⟩ L) L hcr hcz hl hL.2.1
  have hEf : (comSteps D (6 + jrAt ⟨1, 0⟩ L) (jrRows ⟨1, 0⟩ L) L).1.fit = true := comSteps_fit h.fit _ _ _
  rw [c1] at d1 hEf
  have he : e = 0 := d1
  have hEf : E.fit = true := hEf
  subst he
  rcases c5 with c5 | c5 | ⟨c5, n, c6, c7⟩
  · exact absurd rfl c5.1
  · exact absurd rfl c5.1
  have c6 : E.cache = L.targets.zip L.data := by rw [c6, c7 rfl, List.take_length]
  have hsz : E.sz = D.sz := by
    unfold sz; rw [c8]
  have hrw : ∀ k : Nat, (k : Int) < 6 ∨ 6 + ((jrRows ⟨1, 0⟩ L).length : Int) ≤ k → seesIn (rowsFrom (6 + jrAt ⟨1, 0⟩ L) (jrRows ⟨1, 0⟩ L)) k = .none := fun k hk => by
    rw [hat, Int.add_zero]; exact seesIn_rows_no _ _ _ hk
  refine ⟨E, ⟨2, (jrRows ⟨1, 0⟩ L).length⟩, ?_, ⟨c4 rfl, c3.trans h.bad, hEf, by rw [hsz]; exact h.big⟩, hsz, c6, fun k hk hj => ?_, ?_, ?_, fun hn => absurd hn h0, fun _ => ⟨rfl, rfl, fun i hi => ?_⟩⟩
  · unfold jrCommit
    rw [if_neg h0, if_neg (by decide), c1, if_neg (by simp), hat, Int.zero_add]
  · rw [c5 k hk, hrw k (by omega)]; rfl
  · rw [jrFit_iff]
    show 1 ≤ 2 ∧ 2 ≤ 4611686018427387904 ∧ (0 : Int) ≤ (jrRows ⟨1, 0⟩ L).length ∧ ((jrRows ⟨1, 0⟩ L).length : Int) ≤ 81
    omega
  · show ((jrRows ⟨1, 0⟩ L).length : Int) ≤ 27
    omega
  · have hb := h.big
    rw [c5 _ (by omega), hat, Int.add_zero, show ((6 + i : Nat) : Int) = 6 + (i : Int) by omega, seesIn_rows _ _ i hi]; rfl
/-- Behind the second plan, cut off anywhere, and a crash. -/
structure MidAt (D C : Dk) (L M : Pn) (j1 : Jr) (f : Int) : Prop where
  quiet : Quiet C
  cache : C.cache = []
  fuse : C.fuse < 0
  sz : C.sz = D.sz
  out : ∀ k : Nat, k < D.sz → ¬ (6 ≤ k ∧ k < 87) → (k : Int) ∉ L.targets → (k : Int) ∉ M.targets → C.sees k = D.sees k
  one : L.targets ≠ [] → ∀ i (h : i < (jrRows ⟨1, 0⟩ L).length), C.sees ((6 + i : Nat) : Int) = (jrRows ⟨1, 0⟩ L)[i]
  two : (M.targets ≠ [] ∧ ∀ i (h : i < (jrRows j1 M).length), C.sees ((6 + (jrAt j1 M).toNat + i : Nat) : Int) = (jrRows j1 M)[i]) ∨
    ((f ≠ 0 ∨ M.targets = []) ∧ ∀ k : Nat, k < D.sz → ¬ (6 ≤ k ∧ k < 87) → (k : Int) ∉ L.targets → C.sees k = D.sees k)
theorem Quiet.crash {D E : Dk} (hb : E.bad = []) (hf : E.fit = true) (hs : E.sz = D.sz) (h : 112 ≤ D.sz) (keep : Nat → Bool) : Quiet (E.crash keep) ∧ (E.crash keep).cache = [] ∧ (E.crash keep).fuse < 0 ∧ (E.crash keep).sz = D.sz :=
  ⟨⟨rfl, hb, crash_fit hf keep, by rw [crash_sz hf, hs]; exact h⟩, rfl, by show (-1 : Int) < 0; omega, by rw [crash_sz hf, hs]⟩
theorem second {D D1 : Dk} {L M : Pn} {j1 : Jr} (hF : First D D1 L j1) (hD : Quiet D) (hM : M.Fit) (oL : Outside D.sz L) (oM : Outside D.sz M) (n : Int) (keep : Nat → Bool) :
    ∃ C0 j' f, jrCommit (D1.arm n) j1 M = (C0, j', f) ∧ (f = 0 ∨ f = 12) ∧ C0.fit = true ∧ C0.sz = D.sz ∧ MidAt D (C0.crash keep) L M j1 f := by
  have hbig := hD.big
  have q2 : Quiet (D1.arm n) := ⟨hF.quiet.off, hF.quiet.bad, fit_of hF.quiet.fit rfl rfl rfl, hF.quiet.big⟩
  have s2 : (D1.arm n).sz = D.sz := hF.sz
  have hs1 : ∀ k : Nat, (k : Int) ∉ L.targets → (D1.arm n).sees k = D1.sector k := fun k hk => by
    show D1.sees k = _
    unfold sees
    rw [hF.cache, zip_none hk, Option.getD_none, Int.toNat_natCast]
  have hJ : ∀ k : Nat, 6 ≤ k → k < 87 → (k : Int) ∉ L.targets := fun k h1 h2 h3 => (oL _ h3).1 ⟨by omega, by omega⟩
  have hJM : ∀ k : Nat, 6 ≤ k → k < 87 → (k : Int) ∉ M.targets := fun k h1 h2 h3 => (oM _ h3).1 ⟨by omega, by omega⟩
  have hl1 : (jrRows ⟨1, 0⟩ L).length ≤ 27 := write_len _
  have hc2 : (D1.arm n).cache = L.targets.zip L.data := hF.cache
  have hd2 : ∀ k, (D1.arm n).sector k = D1.sector k := fun k => rfl
  generalize D1.arm n = D2 at *
  -- what a crash leaves where the first plan's writes alone may be lost
  have easy : ∀ (E : Dk), E.bad = [] → E.fit = true → E.sz = D.sz → (∀ k : Nat, k < D.sz → E.sector k = D1.sector k) → E.cache = L.targets.zip L.data → ∀ f : Int, (f ≠ 0 ∨ M.targets = []) → MidAt D (E.crash keep) L M j1 f := fun E hb hf hs hse hca f hfm => by
    obtain ⟨m1, m2, m3, m4⟩ := Quiet.crash hb hf hs hbig keep
    have hcs : ∀ k : Nat, k < D.sz → (k : Int) ∉ L.targets → (E.crash keep).sees k = D1.sector k := fun k hk hn => by
      rcases crash_sec hf keep (k := k) (by rw [hs]; exact hk) with h | ⟨x, hx, h1, _⟩
      · rw [h, hse k hk]
      · rw [hca] at hx
        exact absurd (by rw [← h1]; exact mem_zip_target hx) hn
    refine ⟨m1, m2, m3, m4, fun k hk hj hn _ => ?_, fun hL0 i hi => ?_, .inr ⟨hfm, fun k hk hj hn => ?_⟩⟩
    · rw [hcs k hk hn, hF.out k hk hj]
    · rw [hcs _ (by omega) (hJ _ (by omega) (by omega))]; exact (hF.some hL0).2.2 i hi
    · rw [hcs k hk hn, hF.out k hk hj]
  by_cases h0 : M.targets = []
  · exact ⟨D2, j1, 0, by unfold jrCommit; rw [if_pos h0], .inl rfl, q2.fit, s2, easy D2 q2.bad q2.fit s2 (fun k _ => hd2 k) hc2 0 (.inr h0)⟩
  have hseq : ¬ 4611686018427387904 ≤ j1.seq := by
    by_cases hL0 : L.targets = []
    · rw [hF.none hL0]; decide
    · rw [(hF.some hL0).1]; decide
  have hl2 : (jrRows j1 M).length ≤ 27 := write_len _
  have hat : 0 ≤ jrAt j1 M ∧ jrAt j1 M + (jrRows j1 M).length ≤ 81 := jrPlace_bound (by omega) (by omega)
  have hat1 : L.targets ≠ [] → jrAt j1 M = (jrRows ⟨1, 0⟩ L).length := fun hL0 => by
    have hp := (hF.some hL0).2.1
    unfold jrAt
    rw [hp]
    unfold jrPlace
    rw [if_neg (by omega)]
  have hcr := rows_can q2 (j := j1) hM h0
  have hcz := hM.zip_can (D := D2) (by rw [s2]; exact oM) q2.bad
  obtain ⟨E, e, c1, c2, c3, c8, c4, c5⟩ := comSteps_cut q2.fit q2.off (6 + jrAt j1 M) (jrRows j1 M) M hcr hcz hl2 hM.2.1
  have hEf : (comSteps D2 (6 + jrAt j1 M) (jrRows j1 M) M).1.fit = true := comSteps_fit q2.fit _ _ _
  rw [c1] at hEf
  have hEf : E.fit = true := hEf
  have hEsz : E.sz = D.sz := by rw [← s2]; unfold sz; rw [c8]
  have hEb : E.bad = [] := c3.trans q2.bad
  have hrun : ∃ j', jrCommit D2 j1 M = (E, j', e) := by
    unfold jrCommit
    rw [if_neg h0, if_neg hseq, c1]
    by_cases he : e = 0
    · rw [if_neg (by simp [he])]; exact ⟨_, by rw [he]⟩
    · rw [if_pos he]; exact ⟨_, rfl⟩
  obtain ⟨j', hrun⟩ := hrun
  refine ⟨E, j', e, hrun, c2, hEf, hEsz, ?_⟩
  obtain ⟨a, ha⟩ := Int.eq_ofNat_of_zero_le hat.1
  rw [ha] at c5 hat hat1
  have hrw : ∀ k : Nat, k < 6 + a ∨ 6 + a + (jrRows j1 M).length ≤ k → seesIn (rowsFrom (6 + (a : Int)) (jrRows j1 M)) k = .none := fun k hk => seesIn_rows_no _ _ _ (by omega)
  obtain ⟨m1, m2, m3, m4⟩ := Quiet.crash hEb hEf hEsz hbig keep
  rcases c5 with ⟨c5, c6, c7⟩ | ⟨c5, c6, c7⟩ | ⟨c5, m, c6, c7⟩
  · exact easy E hEb hEf hEsz (fun k _ => by rw [sector_eq, c6, ← sector_eq, hd2]) (c7.trans hc2) e (.inl c5)
  · have hcs : ∀ k : Nat, k < D.sz → (k < 6 + a ∨ 6 + a + (jrRows j1 M).length ≤ k) → (E.crash keep).sees k = D2.sees k := fun k hk hn => by
      rcases crash_sec hEf keep (k := k) (by rw [hEsz]; exact hk) with h | ⟨x, hx, h1, _⟩
      · rw [h, c6 k (by rw [s2]; exact hk)]
      · obtain ⟨i, hi, rfl⟩ := rowsFrom_ats _ _ x (c7 x hx)
        have h1 : 6 + (a : Int) + i = k := h1
        omega
    refine ⟨m1, m2, m3, m4, fun k hk hj hn _ => ?_, fun hL0 i hi => ?_, .inr ⟨.inl c5, fun k hk hj hn => ?_⟩⟩
    · rw [hcs k hk (by omega), hs1 k hn, hF.out k hk hj]
    · have := hat1 hL0
      rw [hcs _ (by omega) (by omega), hs1 _ (hJ _ (by omega) (by omega))]; exact (hF.some hL0).2.2 i hi
    · rw [hcs k hk (by omega), hs1 k hn, hF.out k hk hj]
  · have hcs : ∀ k : Nat, k < D.sz → (k : Int) ∉ M.targets → (E.crash keep).sees k = (seesIn (rowsFrom (6 + (a : Int)) (jrRows j1 M)) k).getD (D2.sees k) := fun k hk hn => by
      rcases crash_sec hEf keep (k := k) (by rw [hEsz]; exact hk) with h | ⟨x, hx, h1, _⟩
      · rw [h, c5 k (by rw [s2]; exact hk)]
      · rw [c6] at hx
        exact absurd (by rw [← h1]; exact mem_zip_target (List.mem_of_mem_take hx)) hn
    refine ⟨m1, m2, m3, m4, fun k hk hj hn hn2 => ?_, fun hL0 i hi => ?_, .inl ⟨h0, fun i hi => ?_⟩⟩
    · rw [hcs k hk hn2, hrw k (by omega), Option.getD_none, hs1 k hn, hF.out k hk hj]
    · have := hat1 hL0
      rw [hcs _ (by omega) (hJM _ (by omega) (by omega)), hrw _ (by omega), Option.getD_none, hs1 _ (hJ _ (by omega) (by omega))]; exact (hF.some hL0).2.2 i hi
    · rw [ha, Int.toNat_natCast, hcs _ (by omega) (hJM _ (by omega) (by omega)), show ((6 + a + i : Nat) : Int) = 6 + (a : Int) + i by omega, seesIn_rows _ _ i hi]; rfl
end Go.Proofs.YtjhnaeomaigimaaGreatDoor
set_option linter.unusedVariables false
namespace Go.Proofs.YtjhnaeomaigimaaGreatDoor
open Dk
theorem jrLast_max : ∀ {l : List (Nat × Tx)} {y : Nat × Tx}, jrLast l = some y → ∀ x ∈ l, x.2.seq ≤ y.2.seq := by
  intro l
  induction l with
  | nil => intro y h; cases h
  | cons a l ih =>
    intro y h x hx
    have e2 : jrLast (a :: l) = match jrLast l with
      | .none => some a
      | some y => if a.2.seq < y.2.seq then some y else some a := rfl
    rw [e2] at h
    cases hl : jrLast l with
    | none =>
      rw [hl] at h
      have h := Option.some.inj h
      rw [jrLast_none hl] at hx
      rw [List.mem_singleton.1 hx, h]
      exact Nat.le_refl _
    | some z =>
      rw [hl] at h
      simp only at h
      have hz := ih hl
      split at h
      · have h := Option.some.inj h
        subst h
        rcases List.mem_cons.1 hx with rfl | hx
        · omega
        · exact hz x hx
      · have h := Option.some.inj h
        subst h
        rcases List.mem_cons.1 hx with rfl | hx
        · exact Nat.le_refl _
        · have := hz x hx; omega
theorem seesIn_hit : ∀ {P : List (Int × List UInt8)} {k : Int}, seesIn P k = .none → ∀ x ∈ P, x.1 ≠ k := by
  intro P
  induction P with
  | nil => intro k _ x hx; cases hx
  | cons a P ih =>
    intro k h x hx
    have e : seesIn (a :: P) k = match seesIn P k with
      | some s => some s
      | .none => if a.1 = k then some a.2 else .none := rfl
    rw [e] at h
    cases hp : seesIn P k with
    | some s => rw [hp] at h; cases h
    | none =>
      rw [hp] at h
      simp only at h
      rcases List.mem_cons.1 hx with rfl | hx
      · intro hk; rw [if_pos hk] at h; cases h
      · exact ih hp x hx
theorem jrReplay_fit {D : Dk} (h : D.fit = true) : (jrReplay D).1.fit = true := by
  have hn : (next (jrSteps D (jrScan D).1) flush).1.fit = true := next_fit (by rw [jrSteps_eq]; exact layIn_fit h) fun _ => flush_fit
  unfold jrReplay
  generalize next (jrSteps D (jrScan D).1) flush = X at *
  split
  · exact h
  split <;> exact hn
set_option maxRecDepth 100000 in
theorem jrScan_ok {D : Dk} {x : Nat × Tx} (h : x ∈ (jrScan D).1) : x.2.Ok ∧ x.2.seq < 18446744073709551616 := by
  unfold jrScan at h
  split at h
  · cases h
  · obtain ⟨_, a, b, _⟩ := jrFound_ok h
    rw [b]
    exact ⟨(read_ok a).2.2.2.2.1, read_seq _⟩
open Classical in
/-- Which writes the replay does, where nothing but these two stands in the journal. -/
theorem puts_two {fs : List (Nat × Tx)} {L M : Pn} {n : Nat} (h : ∀ x ∈ fs, x.2 = ⟨1, L⟩ ∨ x.2 = ⟨n, M⟩) (hne : ∀ x ∈ fs, x.2.plan.targets ≠ []) (h0 : L.targets = [] → n = 1) (h1 : L.targets ≠ [] → n = 2 ∧ ∃ x ∈ fs, x.2 = ⟨1, L⟩) :
    jrPuts fs = L.targets.zip L.data ++ (if ∃ x ∈ fs, x.2 = ⟨n, M⟩ then M.targets.zip M.data else []) := by
  by_cases hL : L.targets = []
  · have hn := h0 hL
    have hall : ∀ x ∈ fs, x.2 = ⟨n, M⟩ := fun x hx => (h x hx).resolve_left fun e => hne x hx (by rw [e]; exact hL)
    rw [hL]
    unfold jrPuts
    cases hl : jrLast fs with
    | none =>
      have := jrLast_none hl
      subst this
      rw [if_neg (by rintro ⟨x, hx, _⟩; cases hx)]
      rfl
    | some y =>
      have hy := hall y (jrLast_mem hl)
      rw [if_pos ⟨y, jrLast_mem hl, hy⟩]
      have hb : jrBefore fs y.2.seq = .none := by
        unfold jrBefore
        rw [List.find?_eq_none]
        intro x hx
        rw [hall x hx, hy]
        simp
      simp only [hb]
      rw [hy]
      rfl
  · obtain ⟨hn, z, hz, hz1⟩ := h1 hL
    subst hn
    unfold jrPuts
    cases hl : jrLast fs with
    | none => rw [jrLast_none hl] at hz; cases hz
    | some y =>
      have hmax := jrLast_max hl
      by_cases h2 : ∃ x ∈ fs, x.2 = ⟨2, M⟩
      · rw [if_pos h2]
        obtain ⟨x, hx, hx2⟩ := h2
        have hy : y.2 = ⟨2, M⟩ := (h y (jrLast_mem hl)).resolve_left fun e => by
          have := hmax x hx; rw [hx2, e] at this; exact absurd (show (2 : Nat) ≤ 1 from this) (by decide)
        have hb : ∃ b, jrBefore fs y.2.seq = some b ∧ b.2 = ⟨1, L⟩ := by
          unfold jrBefore
          rw [hy]
          cases hf : fs.find? (fun x => decide (x.2.seq + 1 = (⟨2, M⟩ : Tx).seq)) with
          | none =>
            rw [List.find?_eq_none] at hf
            have := hf z hz
            rw [hz1] at this
            simp at this
          | some b =>
            refine ⟨b, rfl, (h b (List.mem_of_find?_eq_some hf)).resolve_right fun e => ?_⟩
            have := List.find?_some hf
            rw [e] at this
            simp at this
        obtain ⟨b, hb, hb1⟩ := hb
        simp only [hb]
        rw [hb1, hy]
      · rw [if_neg h2]
        have hall : ∀ x ∈ fs, x.2 = ⟨1, L⟩ := fun x hx => (h x hx).resolve_right fun e => h2 ⟨x, hx, e⟩
        have hy := hall y (jrLast_mem hl)
        have hb : jrBefore fs y.2.seq = .none := by
          unfold jrBefore
          rw [List.find?_eq_none]
          intro x hx
          rw [hall x hx, hy]
          simp
        simp only [hb]
        rw [hy, List.append_nil]
        rfl
/-- A replay that is cut off, a crash, and a replay. -/
theorem third {C : Dk} (q : Quiet C) (hc : C.cache = []) (again : Int) (more : Nat → Bool) (hP : C.Can (jrPuts (jrScan C).1)) (hl : (jrPuts (jrScan C).1).length ≤ 48) (ho : ∀ x ∈ jrPuts (jrScan C).1, ¬ (6 ≤ x.1 ∧ x.1 < 87)) :
    ∃ Z j, jrReplay ((jrReplay (C.arm again)).1.crash more) = (Z, j, 0) ∧ Z.fit = true ∧ Z.sz = C.sz ∧ ∀ k : Nat, k < C.sz → Z.sees k = (seesIn (jrPuts (jrScan C).1) k).getD (C.sees k) := by
  have qa : Quiet (C.arm again) := ⟨q.off, q.bad, fit_of q.fit rfl rfl rfl, q.big⟩
  have sa : jrScan (C.arm again) = jrScan C := q.scan_congr qa rfl fun k _ _ => rfl
  have hfit := jrReplay_fit qa.fit
  obtain ⟨E, j0, e0, r1, r2, r3, r4⟩ := replay_cut qa hc (by rw [sa]; exact hP.of rfl rfl) (by rw [sa]; exact hl)
  rw [r1] at hfit ⊢
  rw [sa] at r4
  have hfit : E.fit = true := hfit
  show ∃ Z j, jrReplay (E.crash more) = (Z, j, 0) ∧ _
  have r3 : E.data.length = C.data.length := r3
  have r4 : (E.data = C.data ∧ ∃ n, E.cache = (jrPuts (jrScan C).1).take n) ∨ (E.cache = [] ∧ ∀ k : Nat, k < C.sz → E.sees k = (seesIn (jrPuts (jrScan C).1) k).getD (C.sees k)) := r4
  have hEsz : E.sz = C.sz := by unfold sz; rw [r3]
  obtain ⟨q2, c2, f2, s2⟩ := Quiet.crash r2 hfit hEsz q.big more
  have hsame : ∀ k : Nat, k < C.sz → seesIn (jrPuts (jrScan C).1) k = .none → (E.crash more).sees k = C.sees k := fun k hk hn => by
    rcases crash_sec hfit more (k := k) (by rw [hEsz]; exact hk) with h | ⟨x, hx, h1, _⟩
    · rcases r4 with ⟨d1, _⟩ | ⟨d1, d2⟩
      · rw [h, sees_sector hc, sector_eq, sector_eq, d1]
      · rw [h, ← sees_sector d1, d2 k hk, hn]; rfl
    · rcases r4 with ⟨_, n, d1⟩ | ⟨d1, _⟩
      · rw [d1] at hx
        exact absurd h1 (seesIn_hit hn x (List.mem_of_mem_take hx))
      · rw [d1] at hx; cases hx
  have hlen : (E.crash more).data.length = C.data.length := by
    have h1 : (E.last more).length = E.sz * 64 := lastN_length hfit more _
    have h2 := (fit_parts q.fit).2.2.1
    show (E.last more).length = _
    rw [h1, h2, hEsz]
  have hscan : jrScan (E.crash more) = jrScan C := q.scan_congr q2 s2 fun k h1 h2 => hsame k (by have := q.big; omega) (seesIn_none fun j hj e => ho _ (List.getElem_mem hj) (by omega))
  obtain ⟨Z, j, z1, z2, z3, z4⟩ := replay_do q2 c2 f2 (by rw [hscan]; exact hP.of hlen (r2.trans q.bad.symm)) (by rw [hscan]; exact hl)
  refine ⟨Z, j, z1, z2, z3.trans s2, fun k hk => ?_⟩
  have h := z4 k (by rw [s2]; exact hk)
  rw [hscan] at h
  rw [h]
  cases hs : seesIn (jrPuts (jrScan C).1) k with
  | some s => rfl
  | none => exact hsame k hk hs
/-- All or none. -/
theorem allOrNone {D D1 : Dk} {L M : Pn} {j1 : Jr} {f : Int} {C : Dk} (hF : First D D1 L j1) (hD : Quiet D) (hL : L.Fit) (hM : M.Fit) (oL : Outside D.sz L) (oM : Outside D.sz M) (hC : MidAt D C L M j1 f)
    (hch : ∀ x ∈ (jrScan C).1, x.2 = ⟨1, L⟩ ∨ x.2 = ⟨j1.seq, M⟩) (again : Int) (more : Nat → Bool) :
    ∃ Z j, jrReplay ((jrReplay (C.arm again)).1.crash more) = (Z, j, 0) ∧ Z.fit = true ∧ Z.sz = D.sz ∧
      (∀ k : Nat, k < D.sz → ¬ (6 ≤ k ∧ k < 87) → (k : Int) ∉ M.targets → Z.sees k = D1.sees k) ∧
      ((∀ k : Nat, k < D.sz → (k : Int) ∈ M.targets → Z.sees k = M.data.getD (M.targets.idxOf (k : Int)) []) ∨ (f ≠ 0 ∧ ∀ k : Nat, k < D.sz → (k : Int) ∈ M.targets → Z.sees k = D1.sees k)) := by
  have hbig := hD.big
  have hok : L.targets ≠ [] → (⟨1, L⟩ : Tx).Ok := fun h0 => ⟨hL, h0⟩
  have hone : L.targets ≠ [] → j1.seq = 2 ∧ ∃ x ∈ (jrScan C).1, x.2 = ⟨1, L⟩ := fun h0 => by
    have e : jrRows ⟨1, 0⟩ L = (⟨1, L⟩ : Tx).rows := by
      unfold jrRows
      show (Tx.write ⟨1, L⟩).1 = _
      unfold Tx.write; rw [if_pos (hok h0)]
    have hl : (jrRows ⟨1, 0⟩ L).length ≤ 27 := write_len _
    have h1 := hC.one h0
    rw [e] at h1 hl
    exact ⟨(hF.some h0).1, _, hC.quiet.found (hok h0) (show (1 : Nat) < 18446744073709551616 by decide) (fun k hk => by rw [hC.sz]; exact (oL k hk).2) (a := 0) (by omega) (fun i hi => h1 i hi), rfl⟩
  have hp := puts_two hch (fun x hx => (jrScan_ok hx).1.2) (fun h0 => by rw [hF.none h0]) hone
  have hzL : ∀ x ∈ L.targets.zip L.data, ¬ (6 ≤ x.1 ∧ x.1 < 87) := fun x hx => (oL _ (mem_zip_target hx)).1
  have hzM : ∀ x ∈ M.targets.zip M.data, ¬ (6 ≤ x.1 ∧ x.1 < 87) := fun x hx => (oM _ (mem_zip_target hx)).1
  have cL := hL.zip_can (D := C) (by rw [hC.sz]; exact oL) hC.quiet.bad
  have cM := hM.zip_can (D := C) (by rw [hC.sz]; exact oM) hC.quiet.bad
  have lL : (L.targets.zip L.data).length ≤ 24 := by rw [List.length_zip]; have := hL.2.1; omega
  have lM : (M.targets.zip M.data).length ≤ 24 := by rw [List.length_zip]; have := hM.2.1; omega
  obtain ⟨W, hW⟩ : ∃ W, jrPuts (jrScan C).1 = L.targets.zip L.data ++ W ∧ ((W = M.targets.zip M.data ∧ ∃ x ∈ (jrScan C).1, x.2 = ⟨j1.seq, M⟩) ∨ (W = [] ∧ ¬ ∃ x ∈ (jrScan C).1, x.2 = ⟨j1.seq, M⟩)) := by
    by_cases h2 : ∃ x ∈ (jrScan C).1, x.2 = ⟨j1.seq, M⟩
    · rw [if_pos h2] at hp; exact ⟨_, hp, .inl ⟨rfl, h2⟩⟩
    · rw [if_neg h2] at hp; exact ⟨_, hp, .inr ⟨rfl, h2⟩⟩
  obtain ⟨hW, hW2⟩ := hW
  have hWm : ∀ x ∈ W, x ∈ M.targets.zip M.data := fun x hx => by
    rcases hW2 with ⟨h, _⟩ | ⟨h, _⟩
    · rwa [h] at hx
    · rw [h] at hx; cases hx
  have hWl : W.length ≤ 24 := by
    rcases hW2 with ⟨h, _⟩ | ⟨h, _⟩
    · rw [h]; exact lM
    · rw [h]; exact Nat.zero_le _
  obtain ⟨Z, j, z1, z2, z3, z4⟩ := third hC.quiet hC.cache again more
    (by rw [hW]; intro x hx; rcases List.mem_append.1 hx with h | h; exact cL x h; exact cM x (hWm x h))
    (by rw [hW, List.length_append]; omega)
    (by rw [hW]; intro x hx; rcases List.mem_append.1 hx with h | h; exact hzL x h; exact hzM x (hWm x h))
  rw [hW] at z4
  have hZ : ∀ k : Nat, k < D.sz → Z.sees k = (seesIn W k).getD ((seesIn (L.targets.zip L.data) k).getD (C.sees k)) := fun k hk => by
    rw [z4 k (by rw [hC.sz]; exact hk), seesIn_app]
    cases seesIn W k <;> rfl
  have hD1 : ∀ k : Nat, k < D.sz → ¬ (6 ≤ k ∧ k < 87) → D1.sees k = (seesIn (L.targets.zip L.data) k).getD (D.sees k) := fun k hk hj => by
    unfold sees
    rw [hF.cache, Int.toNat_natCast, hF.out k hk hj]
    rfl
  have hWn : ∀ k : Int, k ∉ M.targets → seesIn W k = .none := fun k hk => seesIn_none fun j hj e => hk (by rw [← e]; exact mem_zip_target (hWm _ (List.getElem_mem hj)))
  refine ⟨Z, j, z1, z2, z3.trans hC.sz, fun k hk hj hn => ?_, ?_⟩
  · rw [hZ k hk, hWn k hn, Option.getD_none, hD1 k hk hj]
    by_cases hkL : (k : Int) ∈ L.targets
    · rw [zip_some hL hkL]; rfl
    · rw [zip_none hkL, hC.out k hk hj hkL hn]
  · by_cases h0 : M.targets = []
    · left; intro k _ hk; rw [h0] at hk; cases hk
    rcases hW2 with ⟨h, _⟩ | ⟨h, hno⟩
    · left
      intro k hk hkM
      rw [hZ k hk, h, zip_some hM hkM]; rfl
    · rcases hC.two with ⟨_, ht⟩ | ⟨hf, ht⟩
      · exfalso
        have hokM : (⟨j1.seq, M⟩ : Tx).Ok := ⟨hM, h0⟩
        have e : jrRows j1 M = (⟨j1.seq, M⟩ : Tx).rows := by unfold jrRows Tx.write; rw [if_pos hokM]
        have hl : (jrRows j1 M).length ≤ 27 := write_len _
        have hat : 0 ≤ jrAt j1 M ∧ jrAt j1 M + (jrRows j1 M).length ≤ 81 := jrPlace_bound (by omega) (by omega)
        rw [e] at ht hat
        have hs : j1.seq < 18446744073709551616 := by
          have := (jrFit_iff.1 hF.fit).2.1
          omega
        exact hno ⟨_, hC.quiet.found hokM hs (fun k hk => by rw [hC.sz]; exact (oM k hk).2) (a := (jrAt j1 M).toNat) (by omega) (fun i hi => ht i hi), rfl⟩
      · right
        refine ⟨hf.resolve_right h0, fun k hk hkM => ?_⟩
        have hj : ¬ (6 ≤ k ∧ k < 87) := fun h => (oM _ hkM).1 ⟨by omega, by omega⟩
        rw [hZ k hk, h, hD1 k hk hj]
        show (seesIn (L.targets.zip L.data) k).getD (C.sees k) = _
        by_cases hkL : (k : Int) ∈ L.targets
        · rw [zip_some hL hkL]; rfl
        · rw [zip_none hkL, ht k hk hj hkL]
end Go.Proofs.YtjhnaeomaigimaaGreatDoor
