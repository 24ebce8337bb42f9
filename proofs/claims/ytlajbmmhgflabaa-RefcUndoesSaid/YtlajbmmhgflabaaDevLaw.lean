/- Devices: the plain words. Nothing of the program stands here. -/
import Derived.Test.YtlajbmmhgflabaaMem
import Derived.Test.YtlajbmmhgflabaaPackLaw
namespace Go.Proofs.Ytlajbmmhgflabaa
/-- Each number is greater than the one ahead of it. -/
def incr : List Int → Bool
  | a :: b :: l => decide (a < b) && incr (b :: l)
  | _ => true
theorem incr_at (l : List Int) : incr l = true ↔ ∀ i (h : i + 1 < l.length), l[i] < l[i + 1] := by
  induction l with
  | nil => simp [incr]
  | cons a l ih =>
    cases l with
    | nil => simp [incr]
    | cons b l =>
      simp only [incr, Bool.and_eq_true, decide_eq_true_eq, ih]
      constructor
      · rintro ⟨h1, h2⟩ i hi
        cases i with
        | zero => exact h1
        | succ i => exact h2 i (by simpa using hi)
      · intro h
        exact ⟨h 0 (by simp), fun i hi => h (i + 1) (by simpa using hi)⟩
namespace Dk
def sz (D : Dk) : Nat := D.data.length / 64
def there (D : Dk) (k : Int) : Bool := decide (0 ≤ k) && decide (k < D.sz)
def putOk (D : Dk) (x : Int × List UInt8) : Bool := D.there x.1 && decide (x.2.length = 64)
def fit (D : Dk) : Bool := decide (1 ≤ D.sz) && (decide (D.sz ≤ 1024) && (decide (D.data.length % 64 = 0) && (decide (D.cache.length ≤ 4096) && (D.cache.all D.putOk && (D.bad.all D.there && incr D.bad)))))
theorem fit_no_put {D : Dk} {i : Nat} (hi : i < D.cache.length) (h : D.putOk D.cache[i] = false) : D.fit = false := by
  have : D.cache.all D.putOk = false := by
    rw [List.all_eq_false]; exact ⟨D.cache[i], List.getElem_mem hi, by simp [h]⟩
  simp [fit, this]
theorem fit_no_bad {D : Dk} {i : Nat} (hi : i < D.bad.length) (h : D.there D.bad[i] = false) : D.fit = false := by
  have : D.bad.all D.there = false := by
    rw [List.all_eq_false]; exact ⟨D.bad[i], List.getElem_mem hi, by simp [h]⟩
  simp [fit, this]
theorem fit_no_incr {D : Dk} {i : Nat} (hi : i < D.bad.length) (h0 : 0 < i) (h : D.bad[i] ≤ D.bad[i - 1]) : D.fit = false := by
  have : incr D.bad = false := by
    rw [← Bool.not_eq_true, incr_at]
    intro hh
    have := hh (i - 1) (by omega)
    simp only [show i - 1 + 1 = i by omega] at this
    omega
  simp [fit, this]
theorem fit_yes {D : Dk} (h1 : 1 ≤ D.sz) (h2 : D.sz ≤ 1024) (h3 : D.data.length % 64 = 0) (h4 : D.cache.length ≤ 4096) (h5 : ∀ i (h : i < D.cache.length), D.putOk D.cache[i] = true)
    (h6 : ∀ i (h : i < D.bad.length), D.there D.bad[i] = true) (h7 : ∀ i (h : i < D.bad.length), 0 < i → D.bad[i - 1] < D.bad[i]) : D.fit = true := by
  have a5 : D.cache.all D.putOk = true := by
    rw [List.all_eq_true]; intro x hx; obtain ⟨i, hi, rfl⟩ := List.getElem_of_mem hx; exact h5 i hi
  have a6 : D.bad.all D.there = true := by
    rw [List.all_eq_true]; intro x hx; obtain ⟨i, hi, rfl⟩ := List.getElem_of_mem hx; exact h6 i hi
  have a7 : incr D.bad = true := (incr_at _).2 fun i hi => by have := h7 (i + 1) hi (by omega); simpa using this
  simp only [fit, a5, a6, a7, decide_eq_true_eq, Bool.and_eq_true, and_true]
  exact ⟨h1, h2, h3, h4⟩
theorem eq_iff {D E : Dk} : D = E ↔ D.data = E.data ∧ D.cache = E.cache ∧ D.fuse = E.fuse ∧ D.off = E.off ∧ D.bad = E.bad := by
  cases D; cases E; simp
/-- The same? -/
def same (D E : Dk) : Bool := decide (D.data = E.data ∧ D.cache = E.cache ∧ D.fuse = E.fuse ∧ D.off = E.off ∧ D.bad = E.bad)
theorem same_self (D : Dk) : D.same D = true := by simp [same]
theorem same_no {D E : Dk} (h : D.data ≠ E.data ∨ D.cache.length ≠ E.cache.length ∨ D.fuse ≠ E.fuse ∨ D.off ≠ E.off ∨ D.bad.length ≠ E.bad.length) : D.same E = false := by
  rw [same, decide_eq_false_iff_not]
  rintro ⟨h1, h2, h3, h4, h5⟩
  rw [h1, h2, h3, h4, h5] at h
  simp at h
theorem same_no_cache {D E : Dk} (i : Nat) (h1 : i < D.cache.length) (h2 : i < E.cache.length) (h : D.cache[i] ≠ E.cache[i]) : D.same E = false := by
  rw [same, decide_eq_false_iff_not]
  rintro ⟨_, e, _⟩
  exact h (by simp only [e])
theorem same_no_bad {D E : Dk} (i : Nat) (h1 : i < D.bad.length) (h2 : i < E.bad.length) (h : D.bad[i] ≠ E.bad[i]) : D.same E = false := by
  rw [same, decide_eq_false_iff_not]
  rintro ⟨_, _, _, _, e⟩
  exact h (by simp only [e])
theorem same_yes {D E : Dk} (h1 : D.data = E.data) (h2 : D.cache.length = E.cache.length) (h3 : D.fuse = E.fuse) (h4 : D.off = E.off) (h5 : D.bad.length = E.bad.length)
    (h6 : ∀ i (a : i < D.cache.length) (b : i < E.cache.length), D.cache[i] = E.cache[i]) (h7 : ∀ i (a : i < D.bad.length) (b : i < E.bad.length), D.bad[i] = E.bad[i]) : D.same E = true := by
  rw [same, decide_eq_true_eq]
  exact ⟨h1, List.ext_getElem h2 (fun i a b => h6 i a b), h3, h4, List.ext_getElem h5 (fun i a b => h7 i a b)⟩
/-- The last write to a sector, or what lasts. -/
def seesIn : List (Int × List UInt8) → Int → Option (List UInt8)
  | [], _ => none
  | x :: l, k => match seesIn l k with
    | some s => some s
    | none => if x.1 = k then some x.2 else none
def sector (D : Dk) (k : Nat) : List UInt8 := (D.data.take ((k + 1) * 64)).drop (k * 64)
def sees (D : Dk) (k : Int) : List UInt8 := (seesIn D.cache k).getD (D.sector k.toNat)
/-- What lasts when the first n writes that are kept are done. -/
def lastN (D : Dk) (keep : Nat → Bool) : Nat → List UInt8
  | 0 => D.data
  | n + 1 => match D.cache[n]? with
    | some x => if keep n then over (D.lastN keep n) (x.1.toNat * 64) x.2 else D.lastN keep n
    | none => D.lastN keep n
def last (D : Dk) (keep : Nat → Bool) : List UInt8 := D.lastN keep D.cache.length
theorem lastN_succ (D : Dk) (keep : Nat → Bool) (n : Nat) (h : n < D.cache.length) : D.lastN keep (n + 1) = if keep n then over (D.lastN keep n) (D.cache[n].1.toNat * 64) D.cache[n].2 else D.lastN keep n := by
  rw [lastN, List.getElem?_eq_getElem h]
theorem fit_parts {D : Dk} (h : D.fit = true) : 1 ≤ D.sz ∧ D.sz ≤ 1024 ∧ D.data.length = D.sz * 64 ∧ D.cache.length ≤ 4096 ∧ (∀ i (h : i < D.cache.length), 0 ≤ D.cache[i].1 ∧ D.cache[i].1 < D.sz ∧ D.cache[i].2.length = 64) ∧
    (∀ i (h : i < D.bad.length), 0 ≤ D.bad[i] ∧ D.bad[i] < D.sz) ∧ incr D.bad = true := by
  simp only [fit, Bool.and_eq_true, decide_eq_true_eq, List.all_eq_true, putOk, there] at h
  obtain ⟨h1, h2, h3, h4, h5, h6, h7⟩ := h
  refine ⟨h1, h2, ?_, h4, fun i hi => ?_, fun i hi => ?_, h7⟩
  · have := Nat.div_add_mod D.data.length 64
    rw [h3] at this
    show _ = D.data.length / 64 * 64
    omega
  · have := h5 _ (List.getElem_mem hi)
    exact ⟨this.1.1, this.1.2, this.2⟩
  · exact h6 _ (List.getElem_mem hi)
theorem lastN_length {D : Dk} (h : D.fit = true) (keep : Nat → Bool) (n : Nat) : (D.lastN keep n).length = D.sz * 64 := by
  obtain ⟨h1, h2, h3, h4, h5, _⟩ := fit_parts h
  induction n with
  | zero => exact h3
  | succ n ih =>
    rw [lastN]
    split
    · rename_i x hx
      obtain ⟨hn, rfl⟩ := List.getElem?_eq_some_iff.1 hx
      obtain ⟨a, b, c⟩ := h5 n hn
      split
      · rw [over_length _ _ _ (by rw [ih, c]; omega), ih]
      · exact ih
    · exact ih
theorem seesIn_none {l : List (Int × List UInt8)} {k : Int} (h : ∀ j (hj : j < l.length), l[j].1 ≠ k) : seesIn l k = none := by
  induction l with
  | nil => rfl
  | cons x l ih =>
    have h1 := ih (fun j hj => h (j + 1) (by simpa using hj))
    have h0 := h 0 (by simp)
    simp only [List.getElem_cons_zero] at h0
    simp [seesIn, h1, h0]
theorem seesIn_some {l : List (Int × List UInt8)} {k : Int} {i : Nat} (hi : i < l.length) (he : l[i].1 = k) (h : ∀ j (hj : j < l.length), i < j → l[j].1 ≠ k) : seesIn l k = some l[i].2 := by
  induction l generalizing i with
  | nil => simp at hi
  | cons x l ih =>
    cases i with
    | zero =>
      have h1 := seesIn_none (l := l) (k := k) (fun j hj => by have := h (j + 1) (by simpa using hj) (by omega); simpa using this)
      simp only [List.getElem_cons_zero] at he ⊢
      simp [seesIn, h1, he]
    | succ i =>
      have h1 := ih (i := i) (by simpa using hi) (by simpa using he) (fun j hj hij => by have := h (j + 1) (by simpa using hj) (by omega); simpa using this)
      simp [seesIn, h1]
/-- A device behind a write or a flush that was done. -/
def burnt (D : Dk) : Dk := { D with fuse := if 0 < D.fuse then D.fuse - 1 else D.fuse }
def write (D : Dk) (k : Int) (s : List UInt8) : Dk × Int :=
  if D.off = true then (D, 12) else if D.there k = false then (D, 10) else if s.length ≠ 64 then (D, 11) else if D.fuse = 0 then ({ D with off := true }, 12)
  else if k ∈ D.bad then (D, 13) else if 4096 ≤ D.cache.length then (D, 16) else (({ D with cache := D.cache ++ [(k, s)] } : Dk).burnt, 0)
def read (D : Dk) (k : Int) : List UInt8 × Int :=
  if D.off = true then ([], 12) else if D.there k = false then ([], 10) else if k ∈ D.bad then ([], 13) else (D.sees k, 0)
def flush (D : Dk) : Dk × Int :=
  if D.off = true then (D, 12) else if D.fuse = 0 then ({ D with off := true }, 12) else (({ D with data := D.last fun _ => true, cache := [] } : Dk).burnt, 0)
def arm (D : Dk) (n : Int) : Dk := { D with fuse := max n (-1) }
def crash (D : Dk) (keep : Nat → Bool) : Dk := { D with data := D.last keep, cache := [], fuse := -1, off := false }
/-- The sectors that are refused, with one more, or without it. -/
def spoilt (l : List Int) (k : Int) (is : Bool) : List Int :=
  if is then (if k ∈ l then l else l.filter (· < k) ++ k :: l.filter (k < ·)) else l.filter (· ≠ k)
def spoil (D : Dk) (k : Int) (is : Bool) : Dk × Int := if D.there k = false then (D, 10) else ({ D with bad := spoilt D.bad k is }, 0)
def fresh (n : Int) : Dk × Int := if n < 1 ∨ 1024 < n then (⟨[], [], 0, false, []⟩, 11) else (⟨List.replicate (64 * n.toNat) 0, [], -1, false, []⟩, 0)
end Dk
end Go.Proofs.Ytlajbmmhgflabaa
