/- Numbers as bytes, texts laid over others: the plain laws. Nothing of the program stands here. -/
import Derived.Test.YtplgmlcoeehnfaaGreatJcBase
import Derived.Shelf.GgClosure.StringsIndexFunc
namespace Go.Proofs.YtplgmlcoeehnfaaGreat

/-- A number as k bytes, the highest first. -/
def be : Nat → Nat → List UInt8
  | 0, _ => []
  | k + 1, n => UInt8.ofNat (n / 256 ^ k) :: be k n
theorem be_length (k n : Nat) : (be k n).length = k := by induction k <;> simp_all [be]
/-- One step of Put's loop. -/
def putStep (len : Nat) (s : List UInt8 × Nat) (x : Fin len × UInt8) : List UInt8 × Nat := (s.1.set x.1.val (UInt8.ofNat s.2), s.2 / 256)
def putSt (len n : Nat) (pre : List (Fin len × UInt8)) : List UInt8 × Nat := pre.foldl (putStep len) (List.replicate len 0, n)
theorem putSt_snoc (len n : Nat) (pre : List (Fin len × UInt8)) (x : Fin len × UInt8) : putSt len n (pre ++ [x]) = putStep len (putSt len n pre) x := by simp [putSt]
theorem putSt_len (len n : Nat) (pre : List (Fin len × UInt8)) : (putSt len n pre).1.length = len := by
  suffices h : ∀ (pre : List (Fin len × UInt8)) (s : List UInt8 × Nat), s.1.length = len → (pre.foldl (putStep len) s).1.length = len from h pre _ (by simp)
  intro pre
  induction pre with
  | nil => exact fun s h => h
  | cons y pre ih => exact fun s h => ih _ (by simpa [putStep] using h)
theorem putSt_step (len n : Nat) (k : Nat) : ∀ pre : List (Fin len × UInt8), pre.map (fun y => y.1.val) = ((List.range len).reverse).take k → k ≤ len → putSt len n pre = (List.replicate (len - k) 0 ++ be k n, n / 256 ^ k) := by
  induction k with
  | zero =>
    intro pre h _
    obtain rfl : pre = [] := by simpa using h
    simp [putSt, be]
  | succ k ih =>
    intro pre h hk
    have ht : ((List.range len).reverse).take (k + 1) = ((List.range len).reverse).take k ++ [len - 1 - k] := by
      rw [List.take_succ_eq_append_getElem (by simp; omega)]; simp
    rw [ht] at h
    obtain ⟨pre', l2, rfl, h1, h2⟩ := List.map_eq_append_iff.1 h
    obtain ⟨y, rfl, hy⟩ : ∃ y, l2 = [y] ∧ y.1.val = len - 1 - k := by
      cases l2 with
      | nil => simp at h2
      | cons y l2 => cases l2 with
        | nil => exact ⟨y, rfl, by simpa using h2⟩
        | cons z l2 => simp at h2
    rw [putSt_snoc, ih pre' h1 (by omega)]
    simp only [putStep, hy]
    refine Prod.ext ?_ ?_
    · have e : len - k = (len - (k + 1)) + 1 := by omega
      rw [e, List.replicate_succ', List.append_assoc, List.set_append_right _ _ (by simp; omega)]
      have e2 : len - 1 - k - (List.replicate (len - (k + 1)) (0 : UInt8)).length = 0 := by rw [List.length_replicate]; omega
      rw [e2]
      simp [be]
    · show n / 256 ^ k / 256 = n / 256 ^ (k + 1)
      rw [Nat.div_div_eq_div_mul, Nat.pow_succ]
theorem putSt_done (len n : Nat) (ys : List (Fin len × UInt8)) (h : ys.map (fun y => y.1.val) = (List.range len).reverse) : (putSt len n ys).1 = be len n := by
  rw [putSt_step len n len ys (by rw [h, List.take_of_length_le (by simp)]) (Nat.le_refl _)]; simp

/-- A number out of bytes. -/
def un (l : List UInt8) : Nat := l.foldl (fun n c => n * 256 + c.toNat) 0
theorem un_snoc (l : List UInt8) (c : UInt8) : un (l ++ [c]) = un l * 256 + c.toNat := by simp [un]
theorem un_lt (l : List UInt8) : un l < 256 ^ l.length := by
  suffices h : ∀ (l : List UInt8) (a : Nat), l.foldl (fun n c => n * 256 + c.toNat) a < (a + 1) * 256 ^ l.length by
    have := h l 0
    rw [Nat.zero_add, Nat.one_mul] at this
    exact this
  intro l
  induction l with
  | nil => intro a; simp
  | cons c l ih =>
    intro a
    simp only [List.foldl_cons, List.length_cons]
    refine Nat.lt_of_lt_of_le (ih _) ?_
    rw [Nat.pow_succ, Nat.mul_comm (256 ^ l.length) 256, ← Nat.mul_assoc]
    refine Nat.mul_le_mul_right _ ?_
    have := c.toNat_lt; omega

/-- A text with another one laid over it. -/
def over (s : List UInt8) (k : Nat) (t : List UInt8) : List UInt8 := s.take k ++ t ++ s.drop (k + t.length)

theorem over_length (s t : List UInt8) (k : Nat) (h : k + t.length ≤ s.length) : (over s k t).length = s.length := by
  simp [over]; omega
theorem over_get (s t : List UInt8) (k j : Nat) (h : k + t.length ≤ s.length) : (over s k t)[j]? = if k ≤ j ∧ j < k + t.length then t[j - k]? else s[j]? := by
  unfold over
  by_cases h1 : j < k
  · rw [if_neg (by omega), List.append_assoc, List.getElem?_append_left (by simp; omega), List.getElem?_take_of_lt h1]
  · by_cases h2 : j < k + t.length
    · rw [if_pos ⟨by omega, h2⟩, List.getElem?_append_left (by simp; omega), List.getElem?_append_right (by simp; omega)]
      simp; congr 1; omega
    · rw [if_neg (by omega), List.getElem?_append_right (by simp; omega), List.getElem?_drop]
      congr 1; simp; omega
/-! ### Names -/
end Go.Proofs.YtplgmlcoeehnfaaGreat
