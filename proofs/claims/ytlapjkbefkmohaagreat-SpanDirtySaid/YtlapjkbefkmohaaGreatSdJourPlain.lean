/- A journal: the plain words and first laws. Nothing of the program stands here. A replay done twice is one: the plain laws. Nothing of the program stands here. Chapter 7's example, in plain words: a plan of one sector made to last on a fresh device, and what then stands in the journal. Nothing of the program stands here. Two plans, the second one cut off anywhere by a crash, and the replay, too: the plain laws. Nothing of the program stands here. All or none: the plain law of two plans, the second one cut off anywhere, and the replay, too. Nothing of the program stands here. All or none: the plain law of the replay, cut off by a crash, and done again. Nothing of the program stands here. -/
import Derived.Test.YtlapjkbefkmohaaGreatSdPlain1
set_option linter.unusedVariables false
namespace Go.Proofs.YtlapjkbefkmohaaGreat
/-- Where a journal goes on. -/
structure Jr where
 seq : Nat
 pos : Int
def Jr.none : Jr := ⟨1, 0⟩
def jrFit (j : Jr) : Bool := decide (1 ≤ j.seq) && (decide (j.seq ≤ 4611686018427387904) && (decide (0 ≤ j.pos) && decide (j.pos ≤ 81)))
def jrPlace (pos size : Int) : Int := if pos < 0 ∨ size < 0 ∨ 81 < size ∨ 81 - size < pos then 0 else pos
theorem jrPlace_bound {pos size : Int} (h0 : 0 ≤ size) (h1 : size ≤ 81) : 0 ≤ jrPlace pos size ∧ jrPlace pos size + size ≤ 81 := by
 unfold jrPlace; split <;> omega
theorem jrFit_iff {j : Jr} : jrFit j = true ↔ 1 ≤ j.seq ∧ j.seq ≤ 4611686018427387904 ∧ 0 ≤ j.pos ∧ j.pos ≤ 81 := by
 simp only [jrFit, Bool.and_eq_true, decide_eq_true_eq]
/-- Sectors as writes, from a place on. -/
def rowsFrom : Int → List (List UInt8) → List (Int × List UInt8)
 | _, [] => []
 | k, s :: l => (k, s) :: rowsFrom (k + 1) l
theorem rowsFrom_length : ∀ (l : List (List UInt8)) (k : Int), (rowsFrom k l).length = l.length := by
 intro l
 induction l with
 | nil => intro k; rfl
 | cons s l ih => intro k; rw [rowsFrom, List.length_cons, List.length_cons, ih]
theorem rowsFrom_get : ∀ (l : List (List UInt8)) (k : Int) (i : Nat) (h : i < l.length), (rowsFrom k l)[i]'(by rw [rowsFrom_length]; exact h) = (k + i, l[i]) := by
 intro l
 induction l with
 | nil => intro k i h; simp at h
 | cons s l ih =>
  intro k i h
  cases i with
  | zero => simp [rowsFrom]
  | succ i =>
   simp only [rowsFrom, List.getElem_cons_succ]
   rw [ih (k + 1) i (by simpa using h)]
   simp only [Prod.mk.injEq, and_true]
   omega
namespace Dk
theorem flush_fit {D : Dk} (h : D.fit = true) : D.flush.1.fit = true := by
 unfold flush
 split
 · exact h
 · split
   · exact fit_of h rfl rfl rfl
   · exact flushed_fit h _
theorem write_fit {D : Dk} (h : D.fit = true) (k : Int) (s : List UInt8) : (D.write k s).1.fit = true := by
 unfold write
 split
 · exact h
 split
 · exact h
 split
 · exact h
 split
 · exact fit_of h rfl rfl rfl
 split
 · exact h
 split
 · exact h
 · rename_i h1 h2 h3 h4 h5 h6
   exact fit_write h (by omega) (by simpa using h2) (by omega)
theorem layIn_fit {l : List (Int × List UInt8)} : ∀ {D : Dk}, D.fit = true → (layIn l D).1.fit = true := by
 induction l with
 | nil => intro D h; exact h
 | cons x l ih =>
  intro D h
  rw [layIn]
  split
  · exact write_fit h _ _
  · exact ih (write_fit h _ _)
/-- What is done next, if nothing fell. -/
def next (X : Dk × Int) (f : Dk → Dk × Int) : Dk × Int := if X.2 ≠ 0 then X else f X.1
theorem next_zero {X : Dk × Int} {f : Dk → Dk × Int} (h : X.2 = 0) : next X f = f X.1 := by unfold next; rw [if_neg (by rw [h]; simp)]
theorem next_err {X : Dk × Int} {f : Dk → Dk × Int} (h : X.2 ≠ 0) : next X f = X := by unfold next; rw [if_pos h]
theorem next_fit {X : Dk × Int} {f : Dk → Dk × Int} (h : X.1.fit = true) (hf : ∀ D : Dk, D.fit = true → (f D).1.fit = true) : (next X f).1.fit = true := by
 unfold next; split
 · exact h
 · exact hf _ h
end Dk
/-- The four steps by which a plan lasts. -/
def comSteps (D : Dk) (k : Int) (l : List (List UInt8)) (L : Pn) : Dk × Int := Dk.next (Dk.next (Dk.next D.flush (Dk.layIn (rowsFrom k l))) Dk.flush) fun E => Pn.lay E L
theorem comSteps_fit {D : Dk} (h : D.fit = true) (k : Int) (l : List (List UInt8)) (L : Pn) : (comSteps D k l L).1.fit = true :=
 Dk.next_fit (Dk.next_fit (Dk.next_fit (Dk.flush_fit h) fun _ => Dk.layIn_fit) fun _ => Dk.flush_fit) fun _ => Dk.layIn_fit
noncomputable def jrRows (j : Jr) (L : Pn) : List (List UInt8) := (⟨j.seq, L⟩ : Tx).write.1
noncomputable def jrAt (j : Jr) (L : Pn) : Int := jrPlace j.pos (jrRows j L).length
noncomputable def jrCommit (D : Dk) (j : Jr) (L : Pn) : Dk × Jr × Int :=
 if L.targets = [] then (D, j, 0) else if 4611686018427387904 ≤ j.seq then (D, j, 10)
 else if (comSteps D (6 + jrAt j L) (jrRows j L) L).2 ≠ 0 then ((comSteps D (6 + jrAt j L) (jrRows j L) L).1, j, (comSteps D (6 + jrAt j L) (jrRows j L) L).2)
 else ((comSteps D (6 + jrAt j L) (jrRows j L) L).1, ⟨j.seq + 1, jrAt j L + (jrRows j L).length⟩, 0)
theorem jrCommit_fit {D : Dk} (h : D.fit = true) (j : Jr) (L : Pn) : (jrCommit D j L).1.fit = true := by
 unfold jrCommit
 split
 · exact h
 split
 · exact h
 split <;> exact comSteps_fit h _ _ _
/-! ### What stands in a journal -/
def jrAll (D : Dk) : List (List UInt8) × Int := allN (fun i : Nat => D.read (6 + (i : Int))) 81
open Classical in
noncomputable def jrIn (l : List (List UInt8)) (n : Int) (i : Nat) : Option (Nat × Tx) :=
 if (txRead (l.drop i)).2 = 0 ∧ ∀ k ∈ (txRead (l.drop i)).1.plan.targets, k < n then some (i, (txRead (l.drop i)).1) else .none
noncomputable def jrFound (l : List (List UInt8)) (n : Int) : List (Nat × Tx) := (List.range 81).filterMap (jrIn l n)
noncomputable def jrScan (D : Dk) : List (Nat × Tx) × Int := if (jrAll D).2 ≠ 0 then ([], (jrAll D).2) else (jrFound (jrAll D).1 D.sz, 0)
/-! ### The newest ones, step by step -/
end Go.Proofs.YtlapjkbefkmohaaGreat
set_option linter.unusedVariables false
namespace Go.Proofs.YtlapjkbefkmohaaGreat
namespace Dk
theorem layIn_spec : ∀ (P : List (Int × List UInt8)) {D E : Dk}, layIn P D = (E, 0) → E.data = D.data ∧ E.bad = D.bad ∧ E.off = D.off ∧ E.cache = D.cache ++ P ∧ ∀ x ∈ P, D.there x.1 = true ∧ x.1 ∉ D.bad ∧ x.2.length = 64 := by
 intro P
 induction P with
 | nil => intro D E h; injection h with h _; subst h; exact ⟨rfl, rfl, rfl, (List.append_nil _).symm, fun x hx => by cases hx⟩
 | cons x P ih =>
  intro D E h
  rw [layIn] at h
  split at h
  · rename_i h1; rw [h] at h1; exact absurd rfl h1
  · rename_i h1
    obtain ⟨e, h2, h3, h4, h5, _⟩ := write_zero (D := D) (k := x.1) (s := x.2) (by simpa using h1)
    rw [e] at h
    obtain ⟨i1, i2, i3, i4, i5⟩ := ih h
    refine ⟨i1, i2, i3, by rw [i4, put_cache, List.append_assoc]; rfl, fun y hy => ?_⟩
    rcases List.mem_cons.1 hy with rfl | hy
    · exact ⟨h3, h4, h5⟩
    · exact i5 y hy
theorem put_fuse {D : Dk} (h : D.fuse < 0) (k : Int) (s : List UInt8) : (D.put k s).fuse < 0 := by
 show (if 0 < D.fuse then D.fuse - 1 else D.fuse) < 0
 rw [if_neg (by omega)]; exact h
theorem layIn_do : ∀ (P : List (Int × List UInt8)) {D : Dk}, D.off = false → D.fuse < 0 → (∀ x ∈ P, D.there x.1 = true ∧ x.1 ∉ D.bad ∧ x.2.length = 64) → D.cache.length + P.length ≤ 4096 → ∃ E, layIn P D = (E, 0) ∧ E.fuse < 0 := by
 intro P
 induction P with
 | nil => intro D _ h _ _; exact ⟨D, rfl, h⟩
 | cons x P ih =>
  intro D h1 h2 h3 h4
  obtain ⟨a, b, c⟩ := h3 x List.mem_cons_self
  simp only [List.length_cons] at h4
  have e : D.write x.1 x.2 = (D.put x.1 x.2, 0) := by
   unfold write
   rw [if_neg (by rw [h1]; simp), if_neg (by rw [a]; simp), if_neg (by omega), if_neg (by omega), if_neg b, if_neg (by omega)]
   rfl
  rw [layIn, e, if_neg (by simp)]
  exact ih h1 (put_fuse h2 _ _) (fun y hy => h3 y (List.mem_cons_of_mem _ hy)) (by rw [put_cache, List.length_append, List.length_singleton]; omega)
theorem flush_do {D : Dk} (h1 : D.off = false) (h2 : D.fuse < 0) : D.flush = (({ D with data := D.last fun _ => true, cache := [] } : Dk).burnt, 0) := by
 unfold flush; rw [if_neg (by rw [h1]; simp), if_neg (by omega)]
theorem seesIn_app (l m : List (Int × List UInt8)) (k : Int) : seesIn (l ++ m) k = match seesIn m k with
 | some s => some s
 | .none => seesIn l k := by
 induction l with
 | nil => simp only [List.nil_append]; cases seesIn m k <;> rfl
 | cons x l ih =>
  have e : seesIn (x :: l ++ m) k = match seesIn (l ++ m) k with
   | some s => some s
   | .none => if x.1 = k then some x.2 else .none := rfl
  rw [e, ih]
  cases seesIn m k with
  | some s => rfl
  | none => rfl
theorem sees_empty {D : Dk} (h : D.cache = []) (k : Nat) : D.sees k = secOf D.data k := by
 unfold sees; rw [h]; rfl
end Dk
end Go.Proofs.YtlapjkbefkmohaaGreat
set_option linter.unusedVariables false
namespace Go.Proofs.YtlapjkbefkmohaaGreat
def e7_s : List UInt8 := List.replicate 64 120
def e7_p : Pn := ⟨[5], [e7_s]⟩
def e7_j : Jr := ⟨1, 0⟩
def e7_t : Tx := ⟨1, e7_p⟩
theorem e7_fit : e7_p.Fit := by
 have h := Pn.set_fit Pn.none_fit 5 e7_s
 have e : (Pn.none.set 5 e7_s).1 = e7_p := by kernel_rfl
 rwa [e] at h
theorem e7_ok : e7_t.Ok := ⟨e7_fit, by intro h; cases h⟩
theorem not_magic {s : List UInt8} (h : s[0]? ≠ some 67) : hcount s = 0 := by
 unfold hcount
 rw [if_neg]
 rintro ⟨_, h2, _⟩
 rw [List.isPrefixOf_iff_prefix] at h2
 obtain ⟨t, rfl⟩ := h2
 exact h rfl
theorem read_no_count {l : List (List UInt8)} (h : hcount (l.headD []) = 0) : (txRead l).2 ≠ 0 := fun h0 => (read_ok h0).2.1 h
namespace Dk
theorem next_mk (A : Dk) (f : Dk → Dk × Int) : next (A, 0) f = f A := next_zero rfl
theorem next_mk12 (A : Dk) (f : Dk → Dk × Int) : next (A, 12) f = (A, 12) := next_err (by simp)
end Dk
theorem flush_blank (n : Nat) : (Dk.blank n).flush = (Dk.blank n, 0) := by
 rw [Dk.flush_do rfl (by show (-1 : Int) < 0; omega)]
 rfl
theorem rowsFrom_ats (l : List (List UInt8)) (k : Int) : ∀ x ∈ rowsFrom k l, ∃ i, ∃ h : i < l.length, x = (k + i, l[i]) := by
 intro x hx
 obtain ⟨i, hi, rfl⟩ := List.getElem_of_mem hx
 have hi' : i < l.length := by rwa [rowsFrom_length] at hi
 exact ⟨i, hi', rowsFrom_get l k i hi'⟩
theorem seesIn_rows (l : List (List UInt8)) (k : Int) (i : Nat) (h : i < l.length) : Dk.seesIn (rowsFrom k l) (k + i) = some l[i] := by
 have hi : i < (rowsFrom k l).length := by rw [rowsFrom_length]; exact h
 have e := rowsFrom_get l k i h
 rw [Dk.seesIn_some hi (by rw [e]) (fun j hj hij => ?_), e]
 have hj' : j < l.length := by rwa [rowsFrom_length] at hj
 rw [rowsFrom_get l k j hj']
 show k + (j : Int) ≠ k + (i : Int)
 omega
theorem seesIn_rows_no (l : List (List UInt8)) (k o : Int) (h : o < k ∨ k + l.length ≤ o) : Dk.seesIn (rowsFrom k l) o = .none := by
 refine Dk.seesIn_none fun j hj => ?_
 have hj' : j < l.length := by rwa [rowsFrom_length] at hj
 rw [rowsFrom_get l k j hj']
 show k + (j : Int) ≠ o
 omega
theorem filterMap_first {β : Type} {f : Nat → Option β} {n : Nat} {b : β} (h0 : f 0 = some b) (h : ∀ i, 1 ≤ i → i < n + 1 → f i = .none) : (List.range (n + 1)).filterMap f = [b] := by
 rw [List.range_succ_eq_map, List.filterMap_cons, h0]
 simp only [List.cons.injEq, true_and]
 rw [List.filterMap_eq_nil_iff]
 intro a ha
 obtain ⟨i, hi, rfl⟩ := List.mem_map.1 ha
 exact h _ (by omega) (by have := List.mem_range.1 hi; omega)
theorem e7_rows : e7_t.rows = [e7_t.top, pad64 (nums [5]), e7_s] := rfl
theorem e7_jrRows : jrRows e7_j e7_p = e7_t.rows := by
 unfold jrRows
 show (Tx.write e7_t).1 = _
 unfold Tx.write
 rw [if_pos e7_ok]
theorem e7_at : jrAt e7_j e7_p = 0 := by
 unfold jrAt
 rw [e7_jrRows, e7_rows]
 show jrPlace 0 (3 : Int) = 0
 decide
theorem burnt_fuse {D : Dk} (h : D.fuse < 0) : D.burnt.fuse < 0 := by
 show (if 0 < D.fuse then D.fuse - 1 else D.fuse) < 0
 rw [if_neg (by omega)]; exact h
theorem blank_sector {n k : Nat} (h1 : k < n) : (Dk.blank n).sector k = List.replicate 64 0 := by
 unfold Dk.sector Dk.blank
 simp only [List.take_replicate, List.drop_replicate]
 congr 1
 omega
/-- Behind the example's commit: what stands in the journal. -/
theorem e7 : ∃ G : Dk, jrCommit (Dk.blank 112) e7_j e7_p = (G, ⟨2, 3⟩, 0) ∧ G.fit = true ∧ jrScan G = ([(0, e7_t)], 0) := by
 have hth : ∀ k : Int, 0 ≤ k → k < 112 → (Dk.blank 112).there k = true := fun k h0 h1 => by
  unfold Dk.there; rw [Dk.blank_sz]; simp [h0]; omega
 have hrl : e7_t.rows.length = 3 := rfl
 obtain ⟨E, hE, hEf⟩ := Dk.layIn_do (rowsFrom 6 e7_t.rows) (D := Dk.blank 112) rfl (by show (-1 : Int) < 0; omega) (fun x hx => by
  obtain ⟨i, hi, rfl⟩ := rowsFrom_ats _ _ x hx
  rw [hrl] at hi
  exact ⟨hth _ (by show (0 : Int) ≤ 6 + i; omega) (by show (6 : Int) + i < 112; omega), (fun h => by cases h), Tx.rows_64 e7_ok _ (List.getElem_mem _)⟩) (by rw [rowsFrom_length, hrl]; decide)
 obtain ⟨e1, e2, e3, e4, _⟩ := Dk.layIn_spec _ hE
 have hEfit : E.fit = true := by have := Dk.layIn_fit (l := rowsFrom 6 e7_t.rows) (Dk.blank_fit (n := 112) (by omega) (by omega)); rw [hE] at this; exact this
 have hEsz : E.sz = 112 := by unfold Dk.sz; rw [e1]; exact Dk.blank_sz 112
 have hfl := Dk.flush_do (D := E) (e3.trans rfl) hEf
 obtain ⟨F, hF⟩ : ∃ F, ({ E with data := E.last fun _ => true, cache := [] } : Dk).burnt = F := ⟨_, rfl⟩
 have f1 : F.data = E.last fun _ => true := by rw [← hF]; rfl
 have f2 : F.bad = [] := by rw [← hF]; exact e2
 have f3 : F.off = false := by rw [← hF]; exact e3
 have f4 : F.cache = [] := by rw [← hF]; rfl
 have f5 : F.fuse < 0 := by rw [← hF]; exact burnt_fuse hEf
 have hFsz : F.sz = 112 := by
  unfold Dk.sz; rw [f1, show (E.last fun _ => true).length = E.sz * 64 from Dk.lastN_length hEfit _ _, hEsz]
 have hFfit : F.fit = true := by rw [← hF]; exact Dk.flushed_fit hEfit _
 obtain ⟨G, hG, _⟩ := Dk.layIn_do [((5 : Int), e7_s)] (D := F) f3 f5 (fun x hx => by
  obtain rfl := List.mem_singleton.1 hx
  refine ⟨?_, by rw [f2]; exact (fun h => nomatch h), rfl⟩
  unfold Dk.there; rw [hFsz]; decide) (by rw [f4]; decide)
 obtain ⟨g1, g2, g3, g4, _⟩ := Dk.layIn_spec _ hG
 have hGfit : G.fit = true := by have := Dk.layIn_fit (l := [((5 : Int), e7_s)]) hFfit; rw [hG] at this; exact this
 have hGsz : G.sz = 112 := by unfold Dk.sz; rw [g1]; exact hFsz
 have hc : comSteps (Dk.blank 112) 6 e7_t.rows e7_p = (G, 0) := by
  unfold comSteps
  rw [flush_blank, Dk.next_mk, hE, Dk.next_mk, hfl, hF, Dk.next_mk]
  exact hG
 refine ⟨G, ?_, hGfit, ?_⟩
 · unfold jrCommit
   rw [if_neg (by intro h; cases h), if_neg (by decide), e7_at, e7_jrRows, Int.add_zero, hc, if_neg (by simp)]
   rfl
 have hread : ∀ i : Nat, i < 81 → G.read (6 + (i : Int)) = (e7_t.rows.getD i (List.replicate 64 0), 0) := fun i hi => by
  have ht : G.there (6 + (i : Int)) = true := by unfold Dk.there; rw [hGsz]; simp; omega
  have hs : G.sees (6 + (i : Int)) = e7_t.rows.getD i (List.replicate 64 0) := by
   have h1 : Dk.seesIn G.cache (6 + (i : Int)) = .none := by
    rw [g4, f4]
    refine Dk.seesIn_none fun j hj => ?_
    have : j = 0 := by simp at hj; exact hj
    subst this
    show (5 : Int) ≠ 6 + (i : Int)
    omega
   have h2 := Dk.last_sees hEfit (k := 6 + i) (by rw [hEsz]; omega)
   unfold Dk.sees
   rw [h1, Option.getD_none, Dk.sector_eq, g1, f1, show (6 + (i : Int)).toNat = 6 + i by omega, h2]
   unfold Dk.sees
   rw [e4]
   show (Dk.seesIn (rowsFrom 6 e7_t.rows) ((6 + i : Nat) : Int)).getD _ = _
   rw [show ((6 + i : Nat) : Int) = 6 + (i : Int) by omega]
   rcases Nat.lt_or_ge i 3 with h3 | h3
   · rw [seesIn_rows _ _ i (by rw [hrl]; exact h3), Option.getD_some, List.getD_eq_getElem?_getD, List.getElem?_eq_getElem (by rw [hrl]; exact h3), Option.getD_some]
   · rw [seesIn_rows_no _ _ _ (by rw [hrl]; omega), Option.getD_none, Dk.sector_eq, e1, ← Dk.sector_eq, blank_sector (by omega), List.getD_eq_getElem?_getD, List.getElem?_eq_none (by rw [hrl]; exact h3), Option.getD_none]
  unfold Dk.read
  rw [if_neg (by rw [g3, f3]; simp), if_neg (by rw [ht]; simp), if_neg (by rw [g2, f2]; simp), hs]
 have hall : (jrAll G).2 = 0 := allN_all fun i hi => by rw [hread i hi]
 obtain ⟨hlen, hget⟩ := allN_ok hall
 have hscan : jrScan G = (jrFound (jrAll G).1 G.sz, 0) := by unfold jrScan; rw [if_neg (by rw [hall]; simp)]
 change (jrAll G).1.length = 81 at hlen
 have hget : ∀ i : Nat, i < 81 → (jrAll G).1[i]? = some (e7_t.rows.getD i (List.replicate 64 0)) := fun i hi => by
  have h := (hget i hi).2
  rw [hread i hi] at h
  exact h
 rw [hscan]
 generalize (jrAll G).1 = R at *
 have hR3 : R = e7_t.rows ++ R.drop 3 := by
  have h3 : R.take 3 = e7_t.rows := ?_
  · conv => lhs; rw [← List.take_append_drop 3 R, h3]
  apply List.ext_getElem?
  intro i
  rcases Nat.lt_or_ge i 3 with h3 | h3
  · rw [List.getElem?_take, if_pos h3, hget i (by omega), List.getD_eq_getElem?_getD, List.getElem?_eq_getElem (by rw [hrl]; exact h3), Option.getD_some]
  · rw [List.getElem?_eq_none (by rw [List.length_take]; omega), List.getElem?_eq_none (by rw [hrl]; exact h3)]
 have hread0 : txRead R = (e7_t, 0) := by rw [hR3]; exact Tx.read_rows e7_ok (by decide) _
 have hno : ∀ i, 1 ≤ i → i < 80 + 1 → hcount ((R.drop i).headD []) = 0 := fun i h1 h2 => by
  have hi : i < R.length := by rw [hlen]; exact h2
  have e := hget i h2
  rw [List.getElem?_eq_getElem hi] at e
  have e := Option.some.inj e
  rw [List.drop_eq_getElem_cons hi, List.headD_cons, e]
  apply not_magic
  rcases Nat.lt_or_ge i 3 with h3 | h3
  · have : i = 1 ∨ i = 2 := by omega
    rcases this with rfl | rfl
    · rw [e7_rows]; decide
    · rw [e7_rows]; decide
  · have h5 : e7_t.rows[i]? = .none := List.getElem?_eq_none (by rw [hrl]; exact h3)
    rw [List.getD_eq_getElem?_getD, h5, Option.getD_none]; decide
 have hff : jrFound R G.sz = [(0, e7_t)] := by
  unfold jrFound
  refine filterMap_first (n := 80) (f := jrIn R G.sz) (b := (0, e7_t)) ?_ fun i h1 h2 => ?_
  · unfold jrIn
    rw [List.drop_zero, hread0]
    refine if_pos ⟨rfl, fun k hk => ?_⟩
    obtain rfl : k = 5 := List.mem_singleton.1 hk
    rw [hGsz]; decide
  · unfold jrIn
    rw [if_neg]
    rintro ⟨h, _⟩
    exact read_no_count (hno i h1 h2) h
 rw [hff]
end Go.Proofs.YtlapjkbefkmohaaGreat
set_option linter.unusedVariables false
namespace Go.Proofs.YtlapjkbefkmohaaGreat
namespace Dk
/-- Writes that can be done on a device. -/
def Can (D : Dk) (P : List (Int × List UInt8)) : Prop := ∀ x ∈ P, D.there x.1 = true ∧ x.1 ∉ D.bad ∧ x.2.length = 64
theorem Can.of {D E : Dk} {P : List (Int × List UInt8)} (h : D.Can P) (h1 : E.data.length = D.data.length) (h2 : E.bad = D.bad) : E.Can P := fun x hx => by
 obtain ⟨a, b, c⟩ := h x hx
 have e : E.sz = D.sz := by unfold sz; rw [h1]
 exact ⟨by unfold there at a ⊢; rw [e]; exact a, by rw [h2]; exact b, c⟩
/-- Writes, up to a cut. -/
theorem layIn_cut : ∀ (P : List (Int × List UInt8)) {D : Dk}, D.off = false → D.Can P → D.cache.length + P.length ≤ 4096 →
 ∃ E e m, layIn P D = (E, e) ∧ m ≤ P.length ∧ E.data = D.data ∧ E.bad = D.bad ∧ E.cache = D.cache ++ P.take m ∧ (e = 0 ∨ e = 12) ∧ (e = 0 → m = P.length ∧ E.off = false) := by
 intro P
 induction P with
 | nil => intro D h1 _ _; exact ⟨D, 0, 0, rfl, Nat.le_refl _, rfl, rfl, (List.append_nil _).symm, .inl rfl, fun _ => ⟨rfl, h1⟩⟩
 | cons x P ih =>
  intro D h1 h3 h4
  obtain ⟨a, b, c⟩ := h3 x List.mem_cons_self
  simp only [List.length_cons] at h4
  by_cases hfu : D.fuse = 0
  · have e : D.write x.1 x.2 = ({ D with off := true }, 12) := by
     unfold write
     rw [if_neg (by rw [h1]; simp), if_neg (by rw [a]; simp), if_neg (by omega), if_pos hfu]
    refine ⟨{ D with off := true }, 12, 0, ?_, Nat.zero_le _, rfl, rfl, (List.append_nil _).symm, .inr rfl, (fun h => absurd h (by decide))⟩
    rw [layIn, e, if_pos (by simp)]
  · have e : D.write x.1 x.2 = (D.put x.1 x.2, 0) := by
     unfold write
     rw [if_neg (by rw [h1]; simp), if_neg (by rw [a]; simp), if_neg (by omega), if_neg hfu, if_neg b, if_neg (by omega)]
     rfl
    obtain ⟨E, e', m, i1, i2, i3, i4, i5, i6, i7⟩ := ih (D := D.put x.1 x.2) h1 (fun y hy => h3 y (List.mem_cons_of_mem _ hy)) (by rw [put_cache, List.length_append, List.length_singleton]; omega)
    refine ⟨E, e', m + 1, ?_, by rw [List.length_cons]; omega, i3, i4, ?_, i6, fun h => ⟨by rw [(i7 h).1]; rfl, (i7 h).2⟩⟩
    · rw [layIn, e, if_neg (by simp)]; exact i1
    · rw [i5, put_cache, List.append_assoc]; rfl
theorem flush_cut {D : Dk} (h : D.off = false) : (D.flush = ({ D with off := true }, 12)) ∨ ∃ E, D.flush = (E, 0) ∧ E.data = (D.last fun _ => true) ∧ E.cache = [] ∧ E.bad = D.bad ∧ E.off = false := by
 rcases flush_cases D h with e | e
 · exact .inl e
 · exact .inr ⟨_, e, rfl, rfl, rfl, h⟩
theorem sees_get (D : Dk) (P : List (Int × List UInt8)) {E : Dk} (h1 : E.data = D.data) (h2 : E.cache = D.cache ++ P) (k : Int) : E.sees k = (seesIn P k).getD (D.sees k) := by
 unfold sees
 rw [h2, seesIn_app]
 cases seesIn P k with
 | some s => rfl
 | none => unfold sector; rw [h1]; rfl
theorem flushed_sees {D E : Dk} (hf : D.fit = true) (h1 : E.data = (D.last fun _ => true)) (h2 : E.cache = []) {k : Nat} (hk : k < D.sz) : E.sees k = D.sees k := by
 rw [sees_empty h2, h1, last_sees hf hk]
theorem sees_sector {E : Dk} (h2 : E.cache = []) (k : Nat) : E.sees k = E.sector k := by rw [sees_empty h2, sector_eq]
end Dk
open Dk
/-- How the four steps may end. -/
theorem comSteps_cut {D : Dk} (hf : D.fit = true) (ho : D.off = false) (k : Int) (R : List (List UInt8)) (M : Pn) (hR : D.Can (rowsFrom k R)) (hM : D.Can (M.targets.zip M.data)) (hl : R.length ≤ 27) (hm : M.targets.length ≤ 24) :
 ∃ E e, comSteps D k R M = (E, e) ∧ (e = 0 ∨ e = 12) ∧ E.bad = D.bad ∧ E.data.length = D.data.length ∧ (e = 0 → E.off = false) ∧
  ((e ≠ 0 ∧ E.data = D.data ∧ E.cache = D.cache) ∨
   (e ≠ 0 ∧ (∀ i : Nat, i < D.sz → E.sector i = D.sees i) ∧ ∀ x ∈ E.cache, x ∈ rowsFrom k R) ∨
   ((∀ i : Nat, i < D.sz → E.sector i = (seesIn (rowsFrom k R) i).getD (D.sees i)) ∧ ∃ n, E.cache = (M.targets.zip M.data).take n ∧ (e = 0 → n = (M.targets.zip M.data).length))) := by
 unfold comSteps
 rcases flush_cut ho with e | ⟨A, e, a1, a2, a3, a4⟩
 · rw [e, next_mk12, next_mk12, next_mk12]
   exact ⟨_, _, rfl, .inr rfl, rfl, rfl, (fun h => absurd h (by decide)), .inl ⟨by decide, rfl, rfl⟩⟩
 rw [e, next_mk]
 have hAf : A.fit = true := by have := flush_fit hf; rw [e] at this; exact this
 have hAl : A.data.length = D.data.length := by
  obtain ⟨_, _, hl, _⟩ := fit_parts hf
  rw [a1, hl]; exact lastN_length hf _ _
 have hAsz : A.sz = D.sz := by unfold sz; rw [hAl]
 have hAs : ∀ i : Nat, i < D.sz → A.sees i = D.sees i := fun i hi => flushed_sees hf a1 a2 hi
 obtain ⟨B, eb, m, b1, b2, b3, b4, b5, b6, b7⟩ := layIn_cut (rowsFrom k R) (D := A) a4 (hR.of hAl a3) (by rw [a2, rowsFrom_length]; simp only [List.length_nil]; omega)
 rw [a2, List.nil_append] at b5
 show ∃ E e, next (next (layIn (rowsFrom k R) A) flush) _ = (E, e) ∧ _
 rw [b1]
 by_cases hb0 : eb = 0
 · obtain ⟨b8, b9⟩ := b7 hb0
   rw [next_zero (X := (B, eb)) hb0]
   have hBf : B.fit = true := by have := layIn_fit (l := rowsFrom k R) hAf; rw [b1] at this; exact this
   have hBl : B.data.length = D.data.length := by rw [b3, hAl]
   have hBsz : B.sz = D.sz := by unfold sz; rw [hBl]
   have b5 : B.cache = rowsFrom k R := by rw [b5, b8, List.take_length]
   rcases flush_cut b9 with e2 | ⟨G, e2, g1, g2, g3, g4⟩
   · show ∃ E e, next (flush B) _ = (E, e) ∧ _
     rw [e2, next_mk12]
     refine ⟨_, _, rfl, .inr rfl, b4.trans a3, hBl, (fun h => absurd h (by decide)), .inr (.inl ⟨by decide, fun i hi => ?_, fun x hx => ?_⟩)⟩
     · rw [← hAs i hi, sees_sector a2]
       show B.sector i = _
       rw [sector_eq, sector_eq, b3]
     · have : x ∈ B.cache := hx
       rwa [b5] at this
   · show ∃ E e, next (flush B) _ = (E, e) ∧ _
     rw [e2, next_mk]
     have hGs : ∀ i : Nat, i < D.sz → G.sector i = (seesIn (rowsFrom k R) i).getD (D.sees i) := fun i hi => by
      rw [← sees_sector g2, flushed_sees hBf g1 g2 (by rw [hBsz]; exact hi), sees_get A (rowsFrom k R) b3 (by rw [a2]; exact b5), hAs i hi]
     have hGl : G.data.length = D.data.length := by
      obtain ⟨_, _, hl, _⟩ := fit_parts hBf
      rw [g1, ← hBl, hl]; exact lastN_length hBf _ _
     obtain ⟨E, ee, n, i1, i2, i3, i4, i5, i6, i7⟩ := layIn_cut (M.targets.zip M.data) (D := G) g4 (hM.of hGl (g3.trans (b4.trans a3))) (by rw [g2, List.length_zip]; simp only [List.length_nil]; omega)
     refine ⟨E, ee, i1, i6, i4.trans (g3.trans (b4.trans a3)), by rw [i3, hGl], fun h => (i7 h).2, .inr (.inr ⟨fun i hi => ?_, n, by rw [i5, g2]; rfl, fun h => (i7 h).1⟩)⟩
     rw [← hGs i hi, sector_eq, sector_eq, i3]
 · rw [next_err (X := (B, eb)) hb0, next_err (X := (B, eb)) hb0]
   refine ⟨_, _, rfl, b6, b4.trans a3, by rw [b3, hAl], fun h => absurd h hb0, .inr (.inl ⟨hb0, fun i hi => ?_, fun x hx => ?_⟩)⟩
   · rw [← hAs i hi, sees_sector a2, sector_eq, sector_eq, b3]
   · rw [b5] at hx; exact List.mem_of_mem_take hx
/-- With no fuse all is done. -/
theorem comSteps_do {D : Dk} (hf : D.fit = true) (ho : D.off = false) (hfu : D.fuse < 0) (k : Int) (R : List (List UInt8)) (M : Pn) (hR : D.Can (rowsFrom k R)) (hM : D.Can (M.targets.zip M.data)) (hl : R.length ≤ 27) (hm : M.targets.length ≤ 24) :
 (comSteps D k R M).2 = 0 ∧ (comSteps D k R M).1.fuse < 0 := by
 unfold comSteps
 have e := flush_do ho hfu
 obtain ⟨A, hA⟩ : ∃ A, ({ D with data := D.last fun _ => true, cache := [] } : Dk).burnt = A := ⟨_, rfl⟩
 rw [hA] at e
 have a1 : A.data = D.last fun _ => true := by rw [← hA]; rfl
 have a2 : A.cache = [] := by rw [← hA]; rfl
 have a3 : A.bad = D.bad := by rw [← hA]; rfl
 have a4 : A.off = false := by rw [← hA]; exact ho
 have a5 : A.fuse < 0 := by rw [← hA]; exact burnt_fuse hfu
 have hAf : A.fit = true := by have := flush_fit hf; rw [e] at this; exact this
 have hAl : A.data.length = D.data.length := by
  obtain ⟨_, _, hl, _⟩ := fit_parts hf
  rw [a1, hl]; exact lastN_length hf _ _
 rw [e, next_mk]
 obtain ⟨B, b1, b2⟩ := layIn_do (rowsFrom k R) a4 a5 (hR.of hAl a3) (by rw [a2, rowsFrom_length]; simp only [List.length_nil]; omega)
 obtain ⟨b3, b4, b5, b6, _⟩ := layIn_spec _ b1
 have hBf : B.fit = true := by have := layIn_fit (l := rowsFrom k R) hAf; rw [b1] at this; exact this
 show (next (next (layIn (rowsFrom k R) A) flush) _).2 = 0 ∧ (next (next (layIn (rowsFrom k R) A) flush) _).1.fuse < 0
 rw [b1, next_mk]
 have e2 := flush_do (b5.trans a4) b2
 obtain ⟨G, hG⟩ : ∃ G, ({ B with data := B.last fun _ => true, cache := [] } : Dk).burnt = G := ⟨_, rfl⟩
 rw [hG] at e2
 show (next (flush B) _).2 = 0 ∧ (next (flush B) _).1.fuse < 0
 rw [e2, next_mk]
 have g1 : G.data = B.last fun _ => true := by rw [← hG]; rfl
 have hGl : G.data.length = D.data.length := by
  obtain ⟨_, _, hl, _⟩ := fit_parts hBf
  rw [g1, ← hAl, ← b3, hl]; exact lastN_length hBf _ _
 obtain ⟨E, i1, i2⟩ := layIn_do (M.targets.zip M.data) (D := G) (by rw [← hG]; exact b5.trans a4) (by rw [← hG]; exact burnt_fuse b2) (hM.of hGl (by rw [← hG]; exact b4.trans a3)) (by rw [← hG, List.length_zip]; simp only [burnt_cache, List.length_nil]; omega)
 have i1' : Pn.lay G M = (E, 0) := i1
 show (Pn.lay G M).2 = 0 ∧ (Pn.lay G M).1.fuse < 0
 rw [i1']
 exact ⟨rfl, i2⟩
/-- The scan of a quiet device. -/
structure Quiet (D : Dk) : Prop where
 off : D.off = false
 bad : D.bad = []
 fit : D.fit = true
 big : 112 ≤ D.sz
theorem Quiet.read {D : Dk} (h : Quiet D) {k : Nat} (hk : k < D.sz) : D.read (k : Int) = (D.sees k, 0) := by
 have ht : D.there (k : Int) = true := by unfold there; simp; omega
 unfold Dk.read
 rw [if_neg (by rw [h.off]; simp), if_neg (by rw [ht]; simp), if_neg (by rw [h.bad]; simp)]
theorem Quiet.all {D : Dk} (h : Quiet D) : (jrAll D).2 = 0 ∧ (jrAll D).1.length = 81 ∧ ∀ i : Nat, i < 81 → (jrAll D).1[i]? = some (D.sees ((6 + i : Nat) : Int)) := by
 have hb := h.big
 have hr : ∀ i : Nat, i < 81 → D.read (6 + (i : Int)) = (D.sees ((6 + i : Nat) : Int), 0) := fun i hi => by
  rw [show (6 + (i : Int)) = ((6 + i : Nat) : Int) by omega]
  exact h.read (by omega)
 have h0 : (jrAll D).2 = 0 := allN_all fun i hi => by rw [hr i hi]
 obtain ⟨h1, h2⟩ := allN_ok h0
 refine ⟨h0, h1, fun i hi => ?_⟩
 have := (h2 i hi).2
 rwa [hr i hi] at this
end Go.Proofs.YtlapjkbefkmohaaGreat
set_option linter.unusedVariables false
namespace Go.Proofs.YtlapjkbefkmohaaGreat
open Dk
/-- Targets on a device, none in the journal. -/
def Outside (n : Nat) (L : Pn) : Prop := ∀ k ∈ L.targets, ¬ (6 ≤ k ∧ k < 87) ∧ k < (n : Int)
theorem Pn.Fit.zip_can {L : Pn} (h : L.Fit) {D : Dk} (ho : Outside D.sz L) (hb : D.bad = []) : D.Can (L.targets.zip L.data) := fun x hx => by
 obtain ⟨h1, h2⟩ := List.of_mem_zip (a := x.1) (b := x.2) hx
 obtain ⟨i, hi, e⟩ := List.getElem_of_mem h1
 obtain ⟨j, hj, e2⟩ := List.getElem_of_mem h2
 have hs := (h.2.2.1 i hi).1
 rw [e] at hs
 simp only [sectorOk, Bool.and_eq_true, decide_eq_true_eq] at hs
 have hk := ho x.1 h1
 refine ⟨?_, by rw [hb]; exact (fun h => nomatch h), by rw [← e2]; exact h.2.2.2 j hj⟩
 unfold there
 simp only [Bool.and_eq_true, decide_eq_true_eq]
 exact ⟨hs.1, hk.2⟩
/-- Behind the first plan. -/
structure First (D D1 : Dk) (L : Pn) (j1 : Jr) : Prop where
 quiet : Quiet D1
 sz : D1.sz = D.sz
 cache : D1.cache = L.targets.zip L.data
 out : ∀ k : Nat, k < D.sz → ¬ (6 ≤ k ∧ k < 87) → D1.sector k = D.sees k
 fit : jrFit j1 = true
 pos : j1.pos ≤ 27
 none : L.targets = [] → j1 = ⟨1, 0⟩
 some : L.targets ≠ [] → j1.seq = 2 ∧ j1.pos = (jrRows ⟨1, 0⟩ L).length ∧ ∀ i (h : i < (jrRows ⟨1, 0⟩ L).length), D1.sector (6 + i) = (jrRows ⟨1, 0⟩ L)[i]
theorem rows_can {D : Dk} (h : Quiet D) {j : Jr} {L : Pn} (hL : L.Fit) (h0 : L.targets ≠ []) : D.Can (rowsFrom (6 + jrAt j L) (jrRows j L)) := fun x hx => by
 obtain ⟨i, hi, rfl⟩ := rowsFrom_ats _ _ x hx
 have hok : (⟨j.seq, L⟩ : Tx).Ok := ⟨hL, h0⟩
 have e : jrRows j L = (⟨j.seq, L⟩ : Tx).rows := by unfold jrRows Tx.write; rw [if_pos hok]
 have hl : (jrRows j L).length ≤ 27 := write_len _
 have hat : 0 ≤ jrAt j L ∧ jrAt j L + (jrRows j L).length ≤ 81 := jrPlace_bound (by omega) (by omega)
 have hb := h.big
 refine ⟨?_, by rw [h.bad]; exact (fun h => nomatch h), ?_⟩
 · unfold there
   simp only [Bool.and_eq_true, decide_eq_true_eq]
   omega
 · show (jrRows j L)[i].length = 64
   have := Tx.rows_64 hok (jrRows j L)[i] (by rw [← e]; exact List.getElem_mem hi)
   exact this
theorem first {D : Dk} (h : Quiet D) (hc : D.cache = []) (hfu : D.fuse < 0) {L : Pn} (hL : L.Fit) (ho : Outside D.sz L) : ∃ D1 j1, jrCommit D ⟨1, 0⟩ L = (D1, j1, 0) ∧ First D D1 L j1 := by
 by_cases h0 : L.targets = []
 · refine ⟨D, ⟨1, 0⟩, by unfold jrCommit; rw [if_pos h0], h, rfl, by rw [hc, h0]; rfl, fun k _ _ => (sees_sector hc k).symm, by decide, by decide, fun _ => rfl, fun hn => absurd h0 hn⟩
 have hl : (jrRows ⟨1, 0⟩ L).length ≤ 27 := write_len _
 have hat : jrAt ⟨1, 0⟩ L = 0 := by
  unfold jrAt jrPlace
  split
  · rfl
  · rfl
 have hcr := rows_can h (j := ⟨1, 0⟩) hL h0
 have hcz := hL.zip_can ho h.bad
 obtain ⟨E, e, c1, c2, c3, c8, c4, c5⟩ := comSteps_cut h.fit h.off (6 + jrAt ⟨1, 0⟩ L) (jrRows ⟨1, 0⟩ L) L hcr hcz hl hL.2.1
 obtain ⟨d1, d2⟩ := comSteps_do h.fit h.off hfu (6 + jrAt ⟨1, 0⟩ L) (jrRows ⟨1, 0⟩ L) L hcr hcz hl hL.2.1
 have hEf : (comSteps D (6 + jrAt ⟨1, 0⟩ L) (jrRows ⟨1, 0⟩ L) L).1.fit = true := comSteps_fit h.fit _ _ _
 rw [c1] at d1 hEf
 have he : e = 0 := d1
 have hEf : E.fit = true := hEf
 subst he
 rcases c5 with c5 | c5 | ⟨c5, n, c6, c7⟩
 · exact absurd rfl c5.1
 · exact absurd rfl c5.1
 have c6 : E.cache = L.targets.zip L.data := by rw [c6, c7 rfl, List.take_length]
 have hsz : E.sz = D.sz := by
  unfold sz; rw [c8]
 have hrw : ∀ k : Nat, (k : Int) < 6 ∨ 6 + ((jrRows ⟨1, 0⟩ L).length : Int) ≤ k → seesIn (rowsFrom (6 + jrAt ⟨1, 0⟩ L) (jrRows ⟨1, 0⟩ L)) k = .none := fun k hk => by
  rw [hat, Int.add_zero]; exact seesIn_rows_no _ _ _ hk
 refine ⟨E, ⟨2, (jrRows ⟨1, 0⟩ L).length⟩, ?_, ⟨c4 rfl, c3.trans h.bad, hEf, by rw [hsz]; exact h.big⟩, hsz, c6, fun k hk hj => ?_, ?_, ?_, fun hn => absurd hn h0, fun _ => ⟨rfl, rfl, fun i hi => ?_⟩⟩
 · unfold jrCommit
   rw [if_neg h0, if_neg (by decide), c1, if_neg (by simp), hat, Int.zero_add]
 · rw [c5 k hk, hrw k (by omega)]; rfl
 · rw [jrFit_iff]
   show 1 ≤ 2 ∧ 2 ≤ 4611686018427387904 ∧ (0 : Int) ≤ (jrRows ⟨1, 0⟩ L).length ∧ ((jrRows ⟨1, 0⟩ L).length : Int) ≤ 81
   omega
 · show ((jrRows ⟨1, 0⟩ L).length : Int) ≤ 27
   omega
 · have hb := h.big
   rw [c5 _ (by omega), hat, Int.add_zero, show ((6 + i : Nat) : Int) = 6 + (i : Int) by omega, seesIn_rows _ _ i hi]; rfl
end Go.Proofs.YtlapjkbefkmohaaGreat
set_option linter.unusedVariables false
namespace Go.Proofs.YtlapjkbefkmohaaGreat
open Dk
end Go.Proofs.YtlapjkbefkmohaaGreat
