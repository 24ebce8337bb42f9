/- Devices: the plain words. Nothing of the program stands here. Devices: what the statements say of them, in plain words. Nothing of the program stands here. Devices: reading what was written, in plain words. Nothing of the program stands here. -/
import Derived.Test.YtkiokdphjfkocaaMem
import Derived.Test.YtkiokdphjfkocaaPackLaw
namespace Go.Proofs.Ytkiokdphjfkocaa
/-- Each number is greater than the one ahead of it. -/
def incr : List Int → Bool
  | a :: b :: l => decide (a < b) && incr (b :: l)
  | _ => true
theorem incr_at (l : List Int) : incr l = true ↔ ∀ i (h : i + 1 < l.length), l[i] < l[i + 1] := by
  induction l with
  | nil => simp [incr]
  | cons a l ih =>
    cases l with
    | nil => simp [incr]
    | cons b l =>
      simp only [incr, Bool.and_eq_true, decide_eq_true_eq, ih]
      constructor
      · rintro ⟨h1, h2⟩ i hi
        cases i with
        | zero => exact h1
        | succ i => exact h2 i (by simpa using hi)
      · intro h
        exact ⟨h 0 (by simp), fun i hi => h (i + 1) (by simpa using hi)⟩
namespace Dk
def sz (D : Dk) : Nat := D.data.length / 64
def there (D : Dk) (k : Int) : Bool := decide (0 ≤ k) && decide (k < D.sz)
def putOk (D : Dk) (x : Int × List UInt8) : Bool := D.there x.1 && decide (x.2.length = 64)
def fit (D : Dk) : Bool := decide (1 ≤ D.sz) && (decide (D.sz ≤ 1024) && (decide (D.data.length % 64 = 0) && (decide (D.cache.length ≤ 4096) && (D.cache.all D.putOk && (D.bad.all D.there && incr D.bad)))))
theorem fit_no_put {D : Dk} {i : Nat} (hi : i < D.cache.length) (h : D.putOk D.cache[i] = false) : D.fit = false := by
  have : D.cache.all D.putOk = false := by
    rw [List.all_eq_false]; exact ⟨D.cache[i], List.getElem_mem hi, by simp [h]⟩
  simp [fit, this]
theorem fit_no_bad {D : Dk} {i : Nat} (hi : i < D.bad.length) (h : D.there D.bad[i] = false) : D.fit = false := by
  have : D.bad.all D.there = false := by
    rw [List.all_eq_false]; exact ⟨D.bad[i], List.getElem_mem hi, by simp [h]⟩
  simp [fit, this]
theorem fit_no_incr {D : Dk} {i : Nat} (hi : i < D.bad.length) (h0 : 0 < i) (h : D.bad[i] ≤ D.bad[i - 1]) : D.fit = false := by
  have : incr D.bad = false := by
    rw [← Bool.not_eq_true, incr_at]
    intro hh
    have := hh (i - 1) (by omega)
    simp only [show i - 1 + 1 = i by omega] at this
    omega
  simp [fit, this]
theorem fit_yes {D : Dk} (h1 : 1 ≤ D.sz) (h2 : D.sz ≤ 1024) (h3 : D.data.length % 64 = 0) (h4 : D.cache.length ≤ 4096) (h5 : ∀ i (h : i < D.cache.length), D.putOk D.cache[i] = true)
    (h6 : ∀ i (h : i < D.bad.length), D.there D.bad[i] = true) (h7 : ∀ i (h : i < D.bad.length), 0 < i → D.bad[i - 1] < D.bad[i]) : D.fit = true := by
  have a5 : D.cache.all D.putOk = true := by
    rw [List.all_eq_true]; intro x hx; obtain ⟨i, hi, rfl⟩ := List.getElem_of_mem hx; exact h5 i hi
  have a6 : D.bad.all D.there = true := by
    rw [List.all_eq_true]; intro x hx; obtain ⟨i, hi, rfl⟩ := List.getElem_of_mem hx; exact h6 i hi
  have a7 : incr D.bad = true := (incr_at _).2 fun i hi => by have := h7 (i + 1) hi (by omega); simpa using this
  simp only [fit, a5, a6, a7, decide_eq_true_eq, Bool.and_eq_true, and_true]
  exact ⟨h1, h2, h3, h4⟩
theorem eq_iff {D E : Dk} : D = E ↔ D.data = E.data ∧ D.cache = E.cache ∧ D.fuse = E.fuse ∧ D.off = E.off ∧ D.bad = E.bad := by
  cases D; cases E; simp
/-- The same? -/
def same (D E : Dk) : Bool := decide (D.data = E.data ∧ D.cache = E.cache ∧ D.fuse = E.fuse ∧ D.off = E.off ∧ D.bad = E.bad)
theorem same_self (D : Dk) : D.same D = true := by simp [same]
theorem same_no {D E : Dk} (h : D.data ≠ E.data ∨ D.cache.length ≠ E.cache.length ∨ D.fuse ≠ E.fuse ∨ D.off ≠ E.off ∨ D.bad.length ≠ E.bad.length) : D.same E = false := by
  rw [same, decide_eq_false_iff_not]
  rintro ⟨h1, h2, h3, h4, h5⟩
  rw [h1, h2, h3, h4, h5] at h
  simp at h
theorem same_no_cache {D E : Dk} (i : Nat) (h1 : i < D.cache.length) (h2 : i < E.cache.length) (h : D.cache[i] ≠ E.cache[i]) : D.same E = false := by
  rw [same, decide_eq_false_iff_not]
  rintro ⟨_, e, _⟩
  exact h (by simp only [e])
theorem same_no_bad {D E : Dk} (i : Nat) (h1 : i < D.bad.length) (h2 : i < E.bad.length) (h : D.bad[i] ≠ E.bad[i]) : D.same E = false := by
  rw [same, decide_eq_false_iff_not]
  rintro ⟨_, _, _, _, e⟩
  exact h (by simp only [e])
theorem same_yes {D E : Dk} (h1 : D.data = E.data) (h2 : D.cache.length = E.cache.length) (h3 : D.fuse = E.fuse) (h4 : D.off = E.off) (h5 : D.bad.length = E.bad.length)
    (h6 : ∀ i (a : i < D.cache.length) (b : i < E.cache.length), D.cache[i] = E.cache[i]) (h7 : ∀ i (a : i < D.bad.length) (b : i < E.bad.length), D.bad[i] = E.bad[i]) : D.same E = true := by
  rw [same, decide_eq_true_eq]
  exact ⟨h1, List.ext_getElem h2 (fun i a b => h6 i a b), h3, h4, List.ext_getElem h5 (fun i a b => h7 i a b)⟩
/-- The last write to a sector, or what lasts. -/
def seesIn : List (Int × List UInt8) → Int → Option (List UInt8)
  | [], _ => none
  | x :: l, k => match seesIn l k with
    | some s => some s
    | none => if x.1 = k then some x.2 else none
def sector (D : Dk) (k : Nat) : List UInt8 := (D.data.take ((k + 1) * 64)).drop (k * 64)
def sees (D : Dk) (k : Int) : List UInt8 := (seesIn D.cache k).getD (D.sector k.toNat)
/-- What lasts when the first n writes that are kept are done. -/
def lastN (D : Dk) (keep : Nat → Bool) : Nat → List UInt8
  | 0 => D.data
  | n + 1 => match D.cache[n]? with
    | some x => if keep n then over (D.lastN keep n) (x.1.toNat * 64) x.2 else D.lastN keep n
    | none => D.lastN keep n
def last (D : Dk) (keep : Nat → Bool) : List UInt8 := D.lastN keep D.cache.length
theorem lastN_succ (D : Dk) (keep : Nat → Bool) (n : Nat) (h : n < D.cache.length) : D.lastN keep (n + 1) = if keep n then over (D.lastN keep n) (D.cache[n].1.toNat * 64) D.cache[n].2 else D.lastN keep n := by
  rw [lastN, List.getElem?_eq_getElem h]
theorem fit_parts {D : Dk} (h : D.fit = true) : 1 ≤ D.sz ∧ D.sz ≤ 1024 ∧ D.data.length = D.sz * 64 ∧ D.cache.length ≤ 4096 ∧ (∀ i (h : i < D.cache.length), 0 ≤ D.cache[i].1 ∧ D.cache[i].1 < D.sz ∧ D.cache[i].2.length = 64) ∧
    (∀ i (h : i < D.bad.length), 0 ≤ D.bad[i] ∧ D.bad[i] < D.sz) ∧ incr D.bad = true := by
  simp only [fit, Bool.and_eq_true, decide_eq_true_eq, List.all_eq_true, putOk, there] at h
  obtain ⟨h1, h2, h3, h4, h5, h6, h7⟩ := h
  refine ⟨h1, h2, ?_, h4, fun i hi => ?_, fun i hi => ?_, h7⟩
  · have := Nat.div_add_mod D.data.length 64
    rw [h3] at this
    show _ = D.data.length / 64 * 64
    omega
  · have := h5 _ (List.getElem_mem hi)
    exact ⟨this.1.1, this.1.2, this.2⟩
  · exact h6 _ (List.getElem_mem hi)
theorem lastN_length {D : Dk} (h : D.fit = true) (keep : Nat → Bool) (n : Nat) : (D.lastN keep n).length = D.sz * 64 := by
  obtain ⟨h1, h2, h3, h4, h5, _⟩ := fit_parts h
  induction n with
  | zero => exact h3
  | succ n ih =>
    rw [lastN]
    split
    · rename_i x hx
      obtain ⟨hn, rfl⟩ := List.getElem?_eq_some_iff.1 hx
      obtain ⟨a, b, c⟩ := h5 n hn
      split
      · rw [over_length _ _ _ (by rw [ih, c]; omega), ih]
      · exact ih
    · exact ih
theorem seesIn_none {l : List (Int × List UInt8)} {k : Int} (h : ∀ j (hj : j < l.length), l[j].1 ≠ k) : seesIn l k = none := by
  induction l with
  | nil => rfl
  | cons x l ih =>
    have h1 := ih (fun j hj => h (j + 1) (by simpa using hj))
    have h0 := h 0 (by simp)
    simp only [List.getElem_cons_zero] at h0
    simp [seesIn, h1, h0]
theorem seesIn_some {l : List (Int × List UInt8)} {k : Int} {i : Nat} (hi : i < l.length) (he : l[i].1 = k) (h : ∀ j (hj : j < l.length), i < j → l[j].1 ≠ k) : seesIn l k = some l[i].2 := by
  induction l generalizing i with
  | nil => simp at hi
  | cons x l ih =>
    cases i with
    | zero =>
      have h1 := seesIn_none (l := l) (k := k) (fun j hj => by have := h (j + 1) (by simpa using hj) (by omega); simpa using this)
      simp only [List.getElem_cons_zero] at he ⊢
      simp [seesIn, h1, he]
    | succ i =>
      have h1 := ih (i := i) (by simpa using hi) (by simpa using he) (fun j hj hij => by have := h (j + 1) (by simpa using hj) (by omega); simpa using this)
      simp [seesIn, h1]
/-- A device behind a write or a flush that was done. -/
def burnt (D : Dk) : Dk := { D with fuse := if 0 < D.fuse then D.fuse - 1 else D.fuse }
def write (D : Dk) (k : Int) (s : List UInt8) : Dk × Int :=
  if D.off = true then (D, 12) else if D.there k = false then (D, 10) else if s.length ≠ 64 then (D, 11) else if D.fuse = 0 then ({ D with off := true }, 12)
  else if k ∈ D.bad then (D, 13) else if 4096 ≤ D.cache.length then (D, 16) else (({ D with cache := D.cache ++ [(k, s)] } : Dk).burnt, 0)
def read (D : Dk) (k : Int) : List UInt8 × Int :=
  if D.off = true then ([], 12) else if D.there k = false then ([], 10) else if k ∈ D.bad then ([], 13) else (D.sees k, 0)
def flush (D : Dk) : Dk × Int :=
  if D.off = true then (D, 12) else if D.fuse = 0 then ({ D with off := true }, 12) else (({ D with data := D.last fun _ => true, cache := [] } : Dk).burnt, 0)
def arm (D : Dk) (n : Int) : Dk := { D with fuse := max n (-1) }
def crash (D : Dk) (keep : Nat → Bool) : Dk := { D with data := D.last keep, cache := [], fuse := -1, off := false }
/-- The sectors that are refused, with one more, or without it. -/
def spoilt (l : List Int) (k : Int) (is : Bool) : List Int :=
  if is then (if k ∈ l then l else l.filter (· < k) ++ k :: l.filter (k < ·)) else l.filter (· ≠ k)
def spoil (D : Dk) (k : Int) (is : Bool) : Dk × Int := if D.there k = false then (D, 10) else ({ D with bad := spoilt D.bad k is }, 0)
def fresh (n : Int) : Dk × Int := if n < 1 ∨ 1024 < n then (⟨[], [], 0, false, []⟩, 11) else (⟨List.replicate (64 * n.toNat) 0, [], -1, false, []⟩, 0)
end Dk
end Go.Proofs.Ytkiokdphjfkocaa
set_option linter.unusedVariables false
namespace Go.Proofs.Ytkiokdphjfkocaa
namespace Dk
def secOf (l : List UInt8) (k : Nat) : List UInt8 := (l.take ((k + 1) * 64)).drop (k * 64)
theorem sector_eq (D : Dk) (k : Nat) : D.sector k = secOf D.data k := rfl
theorem secOf_get {l : List UInt8} {k : Nat} (h : (k + 1) * 64 ≤ l.length) {i : Nat} (hi : i < 64) : (secOf l k)[i]? = l[k * 64 + i]? := by
  rw [secOf, List.getElem?_drop, List.getElem?_take, if_pos (by omega)]
theorem secOf_length {l : List UInt8} {k : Nat} (h : (k + 1) * 64 ≤ l.length) : (secOf l k).length = 64 := by
  rw [secOf, List.length_drop, List.length_take]; omega
theorem secOf_ext {l : List UInt8} {k : Nat} {t : List UInt8} (h : (k + 1) * 64 ≤ l.length) (ht : t.length = 64) (he : ∀ i, i < 64 → l[k * 64 + i]? = t[i]?) : secOf l k = t := by
  apply List.ext_getElem?
  intro i
  by_cases hi : i < 64
  · rw [secOf_get h hi, he i hi]
  · rw [List.getElem?_eq_none (by rw [secOf_length h]; omega), List.getElem?_eq_none (by omega)]
theorem secOf_over_same {l : List UInt8} {k : Nat} {t : List UInt8} (h : (k + 1) * 64 ≤ l.length) (ht : t.length = 64) : secOf (over l (k * 64) t) k = t := by
  have hl : (over l (k * 64) t).length = l.length := over_length _ _ _ (by omega)
  refine secOf_ext (by omega) ht fun i hi => ?_
  rw [over_get _ _ _ _ (by omega), if_pos (by omega)]
  congr 1; omega
theorem secOf_over_other {l : List UInt8} {j k : Nat} {t : List UInt8} (h : (k + 1) * 64 ≤ l.length) (hj : (j + 1) * 64 ≤ l.length) (ht : t.length = 64) (hne : j ≠ k) : secOf (over l (j * 64) t) k = secOf l k := by
  have hl : (over l (j * 64) t).length = l.length := over_length _ _ _ (by omega)
  refine secOf_ext (by omega) (secOf_length h) fun i hi => ?_
  rw [over_get _ _ _ _ (by omega), if_neg (by omega), secOf_get h hi]
theorem seesIn_append (l : List (Int × List UInt8)) (x : Int × List UInt8) (k : Int) : seesIn (l ++ [x]) k = if x.1 = k then some x.2 else seesIn l k := by
  induction l with
  | nil => simp [seesIn]
  | cons y l ih =>
    simp only [List.cons_append, seesIn, ih]
    split <;> rename_i h
    · split at h
      · rename_i h1; rw [if_pos h1, ← h]
      · rename_i h1; rw [if_neg h1, h]
    · split at h
      · cases h
      · rename_i h1; rw [if_neg h1, h]
/-- Behind all writes each sector is what was seen. -/
theorem lastN_sees {D : Dk} (hf : D.fit = true) {k : Nat} (hk : k < D.sz) (n : Nat) (hn : n ≤ D.cache.length) : secOf (D.lastN (fun _ => true) n) k = (seesIn (D.cache.take n) k).getD (D.sector k) := by
  obtain ⟨_, _, hl, _, hc, _⟩ := fit_parts hf
  induction n with
  | zero => simp [lastN, seesIn, sector_eq]
  | succ n ih =>
    have ih := ih (by omega)
    have hL := lastN_length hf (fun _ => true) n
    obtain ⟨c1, c2, c3⟩ := hc n (by omega)
    have hb : (D.cache[n].1.toNat + 1) * 64 ≤ D.sz * 64 := Nat.mul_le_mul_right _ (by omega)
    have hb' : (k + 1) * 64 ≤ D.sz * 64 := Nat.mul_le_mul_right _ (by omega)
    rw [lastN_succ _ _ _ (by omega), if_pos rfl, List.take_succ_eq_append_getElem (by omega), seesIn_append]
    by_cases h : D.cache[n].1 = k
    · rw [if_pos h]
      have e : D.cache[n].1.toNat = k := by omega
      rw [e, secOf_over_same (by omega) c3]; rfl
    · rw [if_neg h, secOf_over_other (by omega) (by omega) c3 (by omega), ih]
theorem last_sees {D : Dk} (hf : D.fit = true) {k : Nat} (hk : k < D.sz) : secOf (D.last fun _ => true) k = D.sees k := by
  rw [last, lastN_sees hf hk _ (Nat.le_refl _), List.take_length, sees, Int.toNat_natCast]
/-- Behind a crash each sector is what lasted, or one of the writes. -/
theorem lastN_some {D : Dk} (hf : D.fit = true) {k : Nat} (hk : k < D.sz) (keep : Nat → Bool) (n : Nat) (hn : n ≤ D.cache.length) : secOf (D.lastN keep n) k = D.sector k ∨ ∃ i, ∃ hi : i < D.cache.length, D.cache[i].1 = k ∧ D.cache[i].2 = secOf (D.lastN keep n) k := by
  obtain ⟨_, _, hl, _, hc, _⟩ := fit_parts hf
  induction n with
  | zero => exact .inl rfl
  | succ n ih =>
    have ih := ih (by omega)
    have hL := lastN_length hf keep n
    obtain ⟨c1, c2, c3⟩ := hc n (by omega)
    have hb : (D.cache[n].1.toNat + 1) * 64 ≤ D.sz * 64 := Nat.mul_le_mul_right _ (by omega)
    have hb' : (k + 1) * 64 ≤ D.sz * 64 := Nat.mul_le_mul_right _ (by omega)
    rw [lastN_succ _ _ _ (by omega)]
    split
    · by_cases h : D.cache[n].1 = k
      · have e : D.cache[n].1.toNat = k := by omega
        exact .inr ⟨n, by omega, h, by rw [e, secOf_over_same (by omega) c3]⟩
      · rw [secOf_over_other (by omega) (by omega) c3 (by omega)]
        exact ih
    · exact ih
theorem lastN_none (D : Dk) (n : Nat) : D.lastN (fun _ => false) n = D.data := by
  induction n with
  | zero => rfl
  | succ n ih => rw [lastN]; split <;> simp [ih]
theorem lastN_congr (D : Dk) {f g : Nat → Bool} (n : Nat) (h : ∀ i, i < n → f i = g i) : D.lastN f n = D.lastN g n := by
  induction n with
  | zero => rfl
  | succ n ih =>
    rw [lastN, lastN, ih (fun i hi => h i (by omega)), h n (by omega)]
theorem fit_of {D E : Dk} (h : D.fit = true) (h1 : E.data.length = D.data.length) (h2 : E.cache = D.cache) (h3 : E.bad = D.bad) : E.fit = true := by
  have e : E.sz = D.sz := by unfold sz; rw [h1]
  have e2 : ∀ k, E.there k = D.there k := fun k => by unfold there; rw [e]
  have e3 : ∀ x, E.putOk x = D.putOk x := fun x => by unfold putOk; rw [e2]
  unfold fit at h ⊢
  rw [e, h1, h2, h3, show E.putOk = D.putOk from funext e3, show E.there = D.there from funext e2]
  exact h
theorem fit_drop {D E : Dk} (h : D.fit = true) (h1 : E.data.length = D.data.length) (h2 : E.cache = []) (h3 : E.bad = D.bad) : E.fit = true := by
  obtain ⟨a, b, c, d, e, f, g⟩ := fit_parts h
  have e' : E.sz = D.sz := by unfold sz; rw [h1]
  have := h
  simp only [fit, Bool.and_eq_true, decide_eq_true_eq] at this ⊢
  obtain ⟨t1, t2, t3, t4, t5, t6, t7⟩ := this
  have e2 : E.there = D.there := funext fun k => by unfold there; rw [e']
  rw [e', h1, h2, h3, e2]
  exact ⟨t1, t2, t3, by simp, by simp, t6, t7⟩
theorem burnt_data (D : Dk) : D.burnt.data = D.data := rfl
theorem burnt_cache (D : Dk) : D.burnt.cache = D.cache := rfl
theorem burnt_off (D : Dk) : D.burnt.off = D.off := rfl
theorem burnt_bad (D : Dk) : D.burnt.bad = D.bad := rfl
theorem fit_write {D : Dk} (h : D.fit = true) (hl : D.cache.length < 4096) {k : Int} {s : List UInt8} (hk : D.there k = true) (hs : s.length = 64) : (({ D with cache := D.cache ++ [(k, s)] } : Dk).burnt).fit = true := by
  have := h
  simp only [fit, Bool.and_eq_true, decide_eq_true_eq, List.all_eq_true] at this ⊢
  obtain ⟨t1, t2, t3, t4, t5, t6, t7⟩ := this
  have e2 : ((({ D with cache := D.cache ++ [(k, s)] } : Dk).burnt)).there = D.there := rfl
  refine ⟨t1, t2, t3, ?_, fun x hx => ?_, t6, t7⟩
  · simp only [burnt_cache, List.length_append, List.length_singleton]; omega
  · simp only [burnt_cache, List.mem_append, List.mem_singleton] at hx
    unfold putOk
    rw [e2]
    rcases hx with hx | rfl
    · exact t5 x hx
    · simp [hk, hs]
end Dk
end Go.Proofs.Ytkiokdphjfkocaa
set_option linter.unusedVariables false
namespace Go.Proofs.Ytkiokdphjfkocaa
namespace Dk
def put (D : Dk) (k : Int) (s : List UInt8) : Dk := ({ D with cache := D.cache ++ [(k, s)] } : Dk).burnt
variable {D : Dk} {k : Int} {s : List UInt8}
theorem put_off (D : Dk) (k : Int) (s : List UInt8) : (D.put k s).off = D.off := rfl
theorem put_bad (D : Dk) (k : Int) (s : List UInt8) : (D.put k s).bad = D.bad := rfl
theorem put_data (D : Dk) (k : Int) (s : List UInt8) : (D.put k s).data = D.data := rfl
theorem put_cache (D : Dk) (k : Int) (s : List UInt8) : (D.put k s).cache = D.cache ++ [(k, s)] := rfl
theorem put_there (D : Dk) (k o : Int) (s : List UInt8) : (D.put k s).there o = D.there o := rfl
theorem put_sees (D : Dk) (k o : Int) (s : List UInt8) : (D.put k s).sees o = if k = o then s else D.sees o := by
  unfold sees
  rw [put_cache, seesIn_append]
  by_cases h : k = o
  · rw [if_pos h, if_pos h]; rfl
  · rw [if_neg h, if_neg h]; rfl
theorem put_read_same (h1 : D.off = false) (h2 : D.there k = true) (h3 : k ∉ D.bad) : (D.put k s).read k = (s, 0) := by
  unfold read
  rw [put_off, put_there, put_bad, if_neg (by simp [h1]), if_neg (by simp [h2]), if_neg h3, put_sees, if_pos rfl]
theorem put_read_other (D : Dk) (k o : Int) (s : List UInt8) : ((D.put k s).read o).2 = (D.read o).2 ∧ (o ≠ k → ((D.put k s).read o).1 = (D.read o).1) := by
  unfold read
  rw [put_off, put_there, put_bad, put_sees]
  split
  · exact ⟨rfl, fun _ => rfl⟩
  split
  · exact ⟨rfl, fun _ => rfl⟩
  split
  · exact ⟨rfl, fun _ => rfl⟩
  · exact ⟨rfl, fun h => if_neg (Ne.symm h)⟩
theorem flush_cases (W : Dk) (h : W.off = false) : W.flush = ({ W with off := true }, 12) ∨ W.flush = (({ W with data := W.last fun _ => true, cache := [] } : Dk).burnt, 0) := by
  unfold flush
  rw [if_neg (by simp [h])]
  by_cases h2 : W.fuse = 0
  · rw [if_pos h2]; exact .inl rfl
  · rw [if_neg h2]; exact .inr rfl
theorem flushed_fit {W : Dk} (h : W.fit = true) (keep : Nat → Bool) : (({ W with data := W.last keep, cache := [] } : Dk).burnt).fit = true := by
  refine fit_drop h ?_ rfl rfl
  have := lastN_length h keep W.cache.length
  obtain ⟨_, _, hl, _⟩ := fit_parts h
  show (W.last keep).length = _
  rw [hl]; exact this
theorem crash_empty {U : Dk} (h : U.cache = []) (keep : Nat → Bool) : U.crash keep = { U with fuse := -1, off := false } := by
  unfold crash last
  rw [h]
  simp only [List.length_nil, lastN]
theorem flushed_read {W : Dk} (hf : W.fit = true) (hk : W.there k = true) (hb : k ∉ W.bad) {U : Dk} (hU : U.data = W.last fun _ => true) (hc : U.cache = []) (ho : U.off = false) (hbad : U.bad = W.bad) : U.read k = (W.sees k, 0) := by
  obtain ⟨_, _, hl, _⟩ := fit_parts hf
  have hsz : U.sz = W.sz := by unfold sz; rw [hU]; have := lastN_length hf (fun _ => true) W.cache.length; rw [show (W.last fun _ => true).length = W.sz * 64 from this]; unfold sz; omega
  have ht : U.there k = true := by unfold there at hk ⊢; rw [hsz]; exact hk
  unfold read
  rw [if_neg (by simp [ho]), if_neg (by simp [ht]), hbad, if_neg hb]
  have hk' := hk
  simp only [there, Bool.and_eq_true, decide_eq_true_eq] at hk'
  obtain ⟨n, rfl⟩ := Int.eq_ofNat_of_zero_le hk'.1
  have e : U.sees (n : Int) = secOf (W.last fun _ => true) n := by
    unfold sees; rw [hc]; simp only [seesIn, Option.getD_none, Int.toNat_natCast, sector_eq]; rw [hU]
  rw [e, last_sees hf (by omega)]
end Dk
end Go.Proofs.Ytkiokdphjfkocaa
