/- Devices: what the statements say of them, in plain words. Nothing of the program stands here. -/
import Derived.Test.YtlajbmmhgflabaaDevLaw
set_option linter.unusedVariables false
namespace Go.Proofs.Ytlajbmmhgflabaa
namespace Dk
def secOf (l : List UInt8) (k : Nat) : List UInt8 := (l.take ((k + 1) * 64)).drop (k * 64)
theorem sector_eq (D : Dk) (k : Nat) : D.sector k = secOf D.data k := rfl
theorem secOf_get {l : List UInt8} {k : Nat} (h : (k + 1) * 64 ≤ l.length) {i : Nat} (hi : i < 64) : (secOf l k)[i]? = l[k * 64 + i]? := by
  rw [secOf, List.getElem?_drop, List.getElem?_take, if_pos (by omega)]
theorem secOf_length {l : List UInt8} {k : Nat} (h : (k + 1) * 64 ≤ l.length) : (secOf l k).length = 64 := by
  rw [secOf, List.length_drop, List.length_take]; omega
theorem secOf_ext {l : List UInt8} {k : Nat} {t : List UInt8} (h : (k + 1) * 64 ≤ l.length) (ht : t.length = 64) (he : ∀ i, i < 64 → l[k * 64 + i]? = t[i]?) : secOf l k = t := by
  apply List.ext_getElem?
  intro i
  by_cases hi : i < 64
  · rw [secOf_get h hi, he i hi]
  · rw [List.getElem?_eq_none (by rw [secOf_length h]; omega), List.getElem?_eq_none (by omega)]
theorem secOf_over_same {l : List UInt8} {k : Nat} {t : List UInt8} (h : (k + 1) * 64 ≤ l.length) (ht : t.length = 64) : secOf (over l (k * 64) t) k = t := by
  have hl : (over l (k * 64) t).length = l.length := over_length _ _ _ (by omega)
  refine secOf_ext (by omega) ht fun i hi => ?_
  rw [over_get _ _ _ _ (by omega), if_pos (by omega)]
  congr 1; omega
theorem secOf_over_other {l : List UInt8} {j k : Nat} {t : List UInt8} (h : (k + 1) * 64 ≤ l.length) (hj : (j + 1) * 64 ≤ l.length) (ht : t.length = 64) (hne : j ≠ k) : secOf (over l (j * 64) t) k = secOf l k := by
  have hl : (over l (j * 64) t).length = l.length := over_length _ _ _ (by omega)
  refine secOf_ext (by omega) (secOf_length h) fun i hi => ?_
  rw [over_get _ _ _ _ (by omega), if_neg (by omega), secOf_get h hi]
theorem seesIn_append (l : List (Int × List UInt8)) (x : Int × List UInt8) (k : Int) : seesIn (l ++ [x]) k = if x.1 = k then some x.2 else seesIn l k := by
  induction l with
  | nil => simp [seesIn]
  | cons y l ih =>
    simp only [List.cons_append, seesIn, ih]
    split <;> rename_i h
    · split at h
      · rename_i h1; rw [if_pos h1, ← h]
      · rename_i h1; rw [if_neg h1, h]
    · split at h
      · cases h
      · rename_i h1; rw [if_neg h1, h]
/-- Behind all writes each sector is what was seen. -/
theorem lastN_sees {D : Dk} (hf : D.fit = true) {k : Nat} (hk : k < D.sz) (n : Nat) (hn : n ≤ D.cache.length) : secOf (D.lastN (fun _ => true) n) k = (seesIn (D.cache.take n) k).getD (D.sector k) := by
  obtain ⟨_, _, hl, _, hc, _⟩ := fit_parts hf
  induction n with
  | zero => simp [lastN, seesIn, sector_eq]
  | succ n ih =>
    have ih := ih (by omega)
    have hL := lastN_length hf (fun _ => true) n
    obtain ⟨c1, c2, c3⟩ := hc n (by omega)
    have hb : (D.cache[n].1.toNat + 1) * 64 ≤ D.sz * 64 := Nat.mul_le_mul_right _ (by omega)
    have hb' : (k + 1) * 64 ≤ D.sz * 64 := Nat.mul_le_mul_right _ (by omega)
    rw [lastN_succ _ _ _ (by omega), if_pos rfl, List.take_succ_eq_append_getElem (by omega), seesIn_append]
    by_cases h : D.cache[n].1 = k
    · rw [if_pos h]
      have e : D.cache[n].1.toNat = k := by omega
      rw [e, secOf_over_same (by omega) c3]; rfl
    · rw [if_neg h, secOf_over_other (by omega) (by omega) c3 (by omega), ih]
theorem last_sees {D : Dk} (hf : D.fit = true) {k : Nat} (hk : k < D.sz) : secOf (D.last fun _ => true) k = D.sees k := by
  rw [last, lastN_sees hf hk _ (Nat.le_refl _), List.take_length, sees, Int.toNat_natCast]
/-- Behind a crash each sector is what lasted, or one of the writes. -/
theorem lastN_some {D : Dk} (hf : D.fit = true) {k : Nat} (hk : k < D.sz) (keep : Nat → Bool) (n : Nat) (hn : n ≤ D.cache.length) : secOf (D.lastN keep n) k = D.sector k ∨ ∃ i, ∃ hi : i < D.cache.length, D.cache[i].1 = k ∧ D.cache[i].2 = secOf (D.lastN keep n) k := by
  obtain ⟨_, _, hl, _, hc, _⟩ := fit_parts hf
  induction n with
  | zero => exact .inl rfl
  | succ n ih =>
    have ih := ih (by omega)
    have hL := lastN_length hf keep n
    obtain ⟨c1, c2, c3⟩ := hc n (by omega)
    have hb : (D.cache[n].1.toNat + 1) * 64 ≤ D.sz * 64 := Nat.mul_le_mul_right _ (by omega)
    have hb' : (k + 1) * 64 ≤ D.sz * 64 := Nat.mul_le_mul_right _ (by omega)
    rw [lastN_succ _ _ _ (by omega)]
    split
    · by_cases h : D.cache[n].1 = k
      · have e : D.cache[n].1.toNat = k := by omega
        exact .inr ⟨n, by omega, h, by rw [e, secOf_over_same (by omega) c3]⟩
      · rw [secOf_over_other (by omega) (by omega) c3 (by omega)]
        exact ih
    · exact ih
theorem lastN_none (D : Dk) (n : Nat) : D.lastN (fun _ => false) n = D.data := by
  induction n with
  | zero => rfl
  | succ n ih => rw [lastN]; split <;> simp [ih]
theorem lastN_congr (D : Dk) {f g : Nat → Bool} (n : Nat) (h : ∀ i, i < n → f i = g i) : D.lastN f n = D.lastN g n := by
  induction n with
  | zero => rfl
  | succ n ih =>
    rw [lastN, lastN, ih (fun i hi => h i (by omega)), h n (by omega)]
theorem fit_of {D E : Dk} (h : D.fit = true) (h1 : E.data.length = D.data.length) (h2 : E.cache = D.cache) (h3 : E.bad = D.bad) : E.fit = true := by
  have e : E.sz = D.sz := by unfold sz; rw [h1]
  have e2 : ∀ k, E.there k = D.there k := fun k => by unfold there; rw [e]
  have e3 : ∀ x, E.putOk x = D.putOk x := fun x => by unfold putOk; rw [e2]
  unfold fit at h ⊢
  rw [e, h1, h2, h3, show E.putOk = D.putOk from funext e3, show E.there = D.there from funext e2]
  exact h
theorem fit_drop {D E : Dk} (h : D.fit = true) (h1 : E.data.length = D.data.length) (h2 : E.cache = []) (h3 : E.bad = D.bad) : E.fit = true := by
  obtain ⟨a, b, c, d, e, f, g⟩ := fit_parts h
  have e' : E.sz = D.sz := by unfold sz; rw [h1]
  have := h
  simp only [fit, Bool.and_eq_true, decide_eq_true_eq] at this ⊢
  obtain ⟨t1, t2, t3, t4, t5, t6, t7⟩ := this
  have e2 : E.there = D.there := funext fun k => by unfold there; rw [e']
  rw [e', h1, h2, h3, e2]
  exact ⟨t1, t2, t3, by simp, by simp, t6, t7⟩
theorem burnt_data (D : Dk) : D.burnt.data = D.data := rfl
theorem burnt_cache (D : Dk) : D.burnt.cache = D.cache := rfl
theorem burnt_off (D : Dk) : D.burnt.off = D.off := rfl
theorem burnt_bad (D : Dk) : D.burnt.bad = D.bad := rfl
theorem fit_write {D : Dk} (h : D.fit = true) (hl : D.cache.length < 4096) {k : Int} {s : List UInt8} (hk : D.there k = true) (hs : s.length = 64) : (({ D with cache := D.cache ++ [(k, s)] } : Dk).burnt).fit = true := by
  have := h
  simp only [fit, Bool.and_eq_true, decide_eq_true_eq, List.all_eq_true] at this ⊢
  obtain ⟨t1, t2, t3, t4, t5, t6, t7⟩ := this
  have e2 : ((({ D with cache := D.cache ++ [(k, s)] } : Dk).burnt)).there = D.there := rfl
  refine ⟨t1, t2, t3, ?_, fun x hx => ?_, t6, t7⟩
  · simp only [burnt_cache, List.length_append, List.length_singleton]; omega
  · simp only [burnt_cache, List.mem_append, List.mem_singleton] at hx
    unfold putOk
    rw [e2]
    rcases hx with hx | rfl
    · exact t5 x hx
    · simp [hk, hs]
end Dk
end Go.Proofs.Ytlajbmmhgflabaa
