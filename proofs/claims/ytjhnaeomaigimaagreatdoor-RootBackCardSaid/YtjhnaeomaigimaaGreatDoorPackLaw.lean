/- Numbers as bytes, texts laid over others: the plain laws. Nothing of the program stands here. -/
import Derived.Test.YtjhnaeomaigimaaGreatDoorBase
import Derived.Shelf.GgClosure.StringsIndexFunc
namespace Go.Proofs.YtjhnaeomaigimaaGreatDoor

/-- A number as k bytes, the highest first. -/
def be : Nat → Nat → List UInt8
  | 0, _ => []
  | k + 1, n => UInt8.ofNat (n / 256 ^ k) :: be k n
theorem be_length (k n : Nat) : (be k n).length = k := by induction k <;> simp_all [be]
theorem be_mod (k : Nat) : ∀ n : Nat, be k n = be k (n % 256 ^ k) := by
  have h : ∀ j k n : Nat, j ≤ k → be j n = be j (n % 256 ^ k) := by
    intro j
    induction j with
    | zero => intros; rfl
    | succ j ih =>
      intro k n hj
      have ih' := ih k n (by omega)
      simp only [be]
      rw [← ih']
      refine congrArg (· :: _) ?_
      apply UInt8.toNat_inj.1
      simp only [UInt8.toNat_ofNat']
      obtain ⟨d, rfl⟩ : ∃ d, k = j + (d + 1) := ⟨k - j - 1, by omega⟩
      show n / 256 ^ j % 256 = n % 256 ^ (j + (d + 1)) / 256 ^ j % 256
      rw [Nat.pow_add, Nat.mod_mul_right_div_self, Nat.pow_succ 256 d, Nat.mod_mul_left_mod]
  exact fun n => h k k n (Nat.le_refl _)
/-- One step of Put's loop. -/
def putStep (len : Nat) (s : List UInt8 × Nat) (x : Fin len × UInt8) : List UInt8 × Nat := (s.1.set x.1.val (UInt8.ofNat s.2), s.2 / 256)
def putSt (len n : Nat) (pre : List (Fin len × UInt8)) : List UInt8 × Nat := pre.foldl (putStep len) (List.replicate len 0, n)
theorem putSt_snoc (len n : Nat) (pre : List (Fin len × UInt8)) (x : Fin len × UInt8) : putSt len n (pre ++ [x]) = putStep len (putSt len n pre) x := by simp [putSt]
theorem putSt_len (len n : Nat) (pre : List (Fin len × UInt8)) : (putSt len n pre).1.length = len := by
  suffices h : ∀ (pre : List (Fin len × UInt8)) (s : List UInt8 × Nat), s.1.length = len → (pre.foldl (putStep len) s).1.length = len from h pre _ (by simp)
  intro pre
  induction pre with
  | nil => exact fun s h => h
  | cons y pre ih => exact fun s h => ih _ (by simpa [putStep] using h)
theorem putSt_step (len n : Nat) (k : Nat) : ∀ pre : List (Fin len × UInt8), pre.map (fun y => y.1.val) = ((List.range len).reverse).take k → k ≤ len → putSt len n pre = (List.replicate (len - k) 0 ++ be k n, n / 256 ^ k) := by
  induction k with
  | zero =>
    intro pre h _
    obtain rfl : pre = [] := by simpa using h
    simp [putSt, be]
  | succ k ih =>
    intro pre h hk
    have ht : ((List.range len).reverse).take (k + 1) = ((List.range len).reverse).take k ++ [len - 1 - k] := by
      rw [List.take_succ_eq_append_getElem (by simp; omega)]; simp
    rw [ht] at h
    obtain ⟨pre', l2, rfl, h1, h2⟩ := List.map_eq_append_iff.1 h
    obtain ⟨y, rfl, hy⟩ : ∃ y, l2 = [y] ∧ y.1.val = len - 1 - k := by
      cases l2 with
      | nil => simp at h2
      | cons y l2 => cases l2 with
        | nil => exact ⟨y, rfl, by simpa using h2⟩
        | cons z l2 => simp at h2
    rw [putSt_snoc, ih pre' h1 (by omega)]
    simp only [putStep, hy]
    refine Prod.ext ?_ ?_
    · have e : len - k = (len - (k + 1)) + 1 := by omega
      rw [e, List.replicate_succ', List.append_assoc, List.set_append_right _ _ (by simp; omega)]
      have e2 : len - 1 - k - (List.replicate (len - (k + 1)) (0 : UInt8)).length = 0 := by rw [List.length_replicate]; omega
      rw [e2]
      simp [be]
    · show n / 256 ^ k / 256 = n / 256 ^ (k + 1)
      rw [Nat.div_div_eq_div_mul, Nat.pow_succ]
theorem putSt_done (len n : Nat) (ys : List (Fin len × UInt8)) (h : ys.map (fun y => y.1.val) = (List.range len).reverse) : (putSt len n ys).1 = be len n := by
  rw [putSt_step len n len ys (by rw [h, List.take_of_length_le (by simp)]) (Nat.le_refl _)]; simp

/-- A number out of bytes. -/
def un (l : List UInt8) : Nat := l.foldl (fun n c => n * 256 + c.toNat) 0
theorem un_snoc (l : List UInt8) (c : UInt8) : un (l ++ [c]) = un l * 256 + c.toNat := by simp [un]
theorem un_lt (l : List UInt8) : un l < 256 ^ l.length := by
  suffices h : ∀ (l : List UInt8) (a : Nat), l.foldl (fun n c => n * 256 + c.toNat) a < (a + 1) * 256 ^ l.length by
    have := h l 0
    rw [Nat.zero_add, Nat.one_mul] at this
    exact this
  intro l
  induction l with
  | nil => intro a; simp
  | cons c l ih =>
    intro a
    simp only [List.foldl_cons, List.length_cons]
    refine Nat.lt_of_lt_of_le (ih _) ?_
    rw [Nat.pow_succ, Nat.mul_comm (256 ^ l.length) 256, ← Nat.mul_assoc]
    refine Nat.mul_le_mul_right _ ?_
    have := c.toNat_lt; omega

/-- A text with another one laid over it. -/
def over (s : List UInt8) (k : Nat) (t : List UInt8) : List UInt8 := s.take k ++ t ++ s.drop (k + t.length)

theorem over_length (s t : List UInt8) (k : Nat) (h : k + t.length ≤ s.length) : (over s k t).length = s.length := by
  simp [over]; omega
theorem over_get (s t : List UInt8) (k j : Nat) (h : k + t.length ≤ s.length) : (over s k t)[j]? = if k ≤ j ∧ j < k + t.length then t[j - k]? else s[j]? := by
  unfold over
  by_cases h1 : j < k
  · rw [if_neg (by omega), List.append_assoc, List.getElem?_append_left (by simp; omega), List.getElem?_take_of_lt h1]
  · by_cases h2 : j < k + t.length
    · rw [if_pos ⟨by omega, h2⟩, List.getElem?_append_left (by simp; omega), List.getElem?_append_right (by simp; omega)]
      simp; congr 1; omega
    · rw [if_neg (by omega), List.getElem?_append_right (by simp; omega), List.getElem?_drop]
      congr 1; simp; omega
theorem over_nil (s : List UInt8) (k : Nat) : over s k [] = s := by simp [over]
theorem over_comm (s t u : List UInt8) (i k : Nat) (hi : i + t.length ≤ s.length) (hk : k + u.length ≤ s.length) (h : i + t.length ≤ k ∨ k + u.length ≤ i ∨ t = [] ∨ u = []) :
    over (over s i t) k u = over (over s k u) i t := by
  rcases h with h | h | rfl | rfl
  · apply List.ext_getElem?; intro j
    rw [over_get _ _ _ _ (by rw [over_length _ _ _ hi]; exact hk), over_get _ _ _ _ hi, over_get _ _ _ _ (by rw [over_length _ _ _ hk]; exact hi), over_get _ _ _ _ hk]
    repeat' split
    all_goals first | rfl | omega
  · apply List.ext_getElem?; intro j
    rw [over_get _ _ _ _ (by rw [over_length _ _ _ hi]; exact hk), over_get _ _ _ _ hi, over_get _ _ _ _ (by rw [over_length _ _ _ hk]; exact hi), over_get _ _ _ _ hk]
    repeat' split
    all_goals first | rfl | omega
  · rw [over_nil, over_nil]
  · rw [over_nil, over_nil]

/-- Numbers of one size are as their texts. -/
theorem bytesLess_append (p a b : List UInt8) : Op.bytesLess (p ++ a) (p ++ b) = Op.bytesLess a b := by
  induction p with
  | nil => rfl
  | cons c p ih => simp [Op.bytesLess, ih]
theorem be_less (k : Nat) : ∀ a b : Nat, a < 256 ^ k → b < 256 ^ k → Op.bytesLess (be k a) (be k b) = decide (a < b) := by
  induction k with
  | zero => intro a b ha hb; simp at ha hb; subst ha; subst hb; simp [be, Op.bytesLess]
  | succ k ih =>
    intro a b ha hb
    have hp : 0 < 256 ^ k := Nat.pow_pos (by omega)
    have hda : a / 256 ^ k < 256 := Nat.div_lt_of_lt_mul (by rw [← Nat.pow_succ]; exact ha)
    have hdb : b / 256 ^ k < 256 := Nat.div_lt_of_lt_mul (by rw [← Nat.pow_succ]; exact hb)
    have hmod : ∀ n : Nat, be k n = be k (n % 256 ^ k) := be_mod k
    simp only [be, Op.bytesLess]
    rw [hmod a, hmod b, ih _ _ (Nat.mod_lt _ hp) (Nat.mod_lt _ hp)]
    have ea := Nat.div_add_mod a (256 ^ k)
    have eb := Nat.div_add_mod b (256 ^ k)
    have ma := Nat.mod_lt a hp
    have mb := Nat.mod_lt b hp
    rw [Bool.eq_iff_iff]
    simp only [Bool.or_eq_true, decide_eq_true_eq, Bool.and_eq_true, beq_iff_eq, UInt8.lt_iff_toNat_lt, ← UInt8.toNat_inj, UInt8.toNat_ofNat']
    rw [Nat.mod_eq_of_lt hda, Nat.mod_eq_of_lt hdb]
    generalize 256 ^ k = m at *
    generalize a / m = x at *
    generalize b / m = y at *
    generalize a % m = u at *
    generalize b % m = v at *
    rcases Nat.lt_trichotomy x y with h | h | h
    · have h1 : m * (x + 1) ≤ m * y := Nat.mul_le_mul_left _ (by omega)
      rw [Nat.mul_add, Nat.mul_one] at h1
      exact ⟨fun _ => by omega, fun _ => .inl h⟩
    · subst h
      exact ⟨fun hh => by rcases hh with hh | hh <;> omega, fun hh => .inr ⟨rfl, by omega⟩⟩
    · have h1 : m * (y + 1) ≤ m * x := Nat.mul_le_mul_left _ (by omega)
      rw [Nat.mul_add, Nat.mul_one] at h1
      exact ⟨fun hh => by rcases hh with hh | hh <;> omega, fun hh => by omega⟩

/-! ### Names -/
def okByte (b : UInt8) : Bool := decide (33 ≤ b.toNat) && decide (b.toNat ≤ 126)
def nameOk (l : List UInt8) : Bool := !l.isEmpty && decide (l.length ≤ 8) && l.all okByte
def badRune (c : Nat) : Bool := decide (c < 33) || decide (126 < c)

theorem decode_low (s : ByteArray) (i : Nat) (h : (s.get! i).toNat < 128) : Utf8.decode s i = ((s.get! i).toNat, 1) := by
  simp [Utf8.decode, h]
theorem decode_high (s : ByteArray) (i : Nat) (h : ¬ (s.get! i).toNat < 128) : 128 ≤ (Utf8.decode s i).1 := by
  simp only [Utf8.decode, Nat.add_zero, h, if_false, Utf8.runeError, Bool.and_eq_true]
  repeat' split
  all_goals simp only [ge_iff_le, decide_eq_true_eq] at *
  all_goals omega
theorem get_bs (l : List UInt8) (i : Nat) (h : i < l.length) : (bs l).get! i = l[i] := by
  simp [bs, ByteArray.get!, h]
theorem idx_from (l : List UInt8) : ∀ f pos : Nat, l.length ≤ pos + f → (Lib.idxFuncFrom badRune true (bs l) f pos < 0 ↔ (l.drop pos).all okByte = true) := by
  intro f
  induction f with
  | zero => intro pos h; rw [List.drop_of_length_le (by omega)]; simp [Lib.idxFuncFrom]
  | succ f ih =>
    intro pos h
    unfold Lib.idxFuncFrom
    by_cases hp : pos < l.length
    · rw [if_pos (by rw [bs_size]; exact hp), List.drop_eq_getElem_cons hp]
      simp only [List.all_cons, Bool.and_eq_true]
      by_cases hb : l[pos].toNat < 128
      · rw [decode_low _ _ (by rw [get_bs l pos hp]; exact hb), get_bs l pos hp]
        by_cases hk : badRune l[pos].toNat = true
        · rw [if_pos hk]
          refine ⟨fun hh => by omega, fun hh => ?_⟩
          have := hh.1
          simp [okByte, badRune] at this hk
          omega
        · rw [if_neg hk, ih (pos + 1) (by omega)]
          have hok : okByte l[pos] = true := by
            simp [badRune] at hk
            simp [okByte]; omega
          simp [hok]
      · have hd := decode_high (bs l) pos (by rw [get_bs l pos hp]; exact hb)
        have hk : badRune (Utf8.decode (bs l) pos).1 = true := by simp [badRune]; omega
        rw [if_pos hk]
        refine ⟨fun hh => by omega, fun hh => ?_⟩
        have := hh.1
        simp [okByte] at this
        omega
    · rw [if_neg (by rw [bs_size]; exact hp), List.drop_of_length_le (by omega)]
      simp
theorem idx_all (l : List UInt8) : Lib.idxFunc badRune true (bs l) < 0 ↔ l.all okByte = true := by
  have := idx_from l (bs l).size 0 (by rw [bs_size]; omega)
  rw [List.drop_zero] at this
  exact this
end Go.Proofs.YtjhnaeomaigimaaGreatDoor
