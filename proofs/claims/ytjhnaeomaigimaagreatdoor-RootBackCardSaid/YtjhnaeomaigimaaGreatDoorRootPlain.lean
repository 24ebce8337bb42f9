/- Package root: snapshots' and dirty bitmaps' places, the plain words and laws. Nothing of the program stands here. -/
import Derived.Test.YtjhnaeomaigimaaGreatDoorPointPlain
import Derived.Test.YtjhnaeomaigimaaGreatDoorPackName
namespace Go.Proofs.YtjhnaeomaigimaaGreatDoor
theorem zeros_head {k n : Nat} (h : n < 256 ^ k) (hn : n ≠ 0) : be k n ≠ List.replicate k 0 := fun e => by
  have h1 := un_bes k n
  have h2 : un (List.replicate k (0 : UInt8)) = 0 := by
    clear e h1 h
    induction k with
    | zero => rfl
    | succ k ih => rw [List.replicate_succ, un_cons, ih]; simp
  rw [e, h2, Nat.mod_eq_of_lt h] at h1
  exact hn h1.symm
/-! ### Snapshots -/
structure Sn where
  id : Nat
  l1 : Int
  name : List UInt8
deriving DecidableEq
namespace Sn
def zero : Sn := ⟨0, 0, []⟩
def ok (s : Sn) : Bool := decide (s = zero) || (decide (s.id ≠ 0) && (decide (0 ≤ s.l1) && decide (s.l1 < 256)) && nameOk s.name)
def bytes (s : Sn) : List UInt8 := if s = zero then List.replicate 16 0 else be 4 s.id ++ be 2 s.l1.toNat ++ [0, 0] ++ (s.name ++ List.replicate (8 - s.name.length) 0)
def of (b : List UInt8) : Sn := if b = List.replicate 16 0 then zero else ⟨un (b.take 4), un (cut b 4 2), (toNameR (b.drop 8)).1⟩
theorem ok_cases {s : Sn} (h : s.ok = true) : s = zero ∨ (s ≠ zero ∧ s.id ≠ 0 ∧ (0 ≤ s.l1 ∧ s.l1 < 256) ∧ nameOk s.name = true) := by
  by_cases hz : s = zero
  · exact .inl hz
  · refine .inr ⟨hz, ?_⟩
    simp [ok, hz] at h
    exact ⟨h.1.1, h.1.2, h.2⟩
theorem bytes_length {s : Sn} (h : s.ok = true) : s.bytes.length = 16 := by
  rcases ok_cases h with rfl | ⟨hz, h1, h2, h3⟩
  · rfl
  · have := nameOk_len h3
    rw [bytes, if_neg hz]
    simp [be_length]
    omega
theorem of_bytes {s : Sn} (h : s.ok = true) (hi : s.id < 4294967296) : of s.bytes = s := by
  rcases ok_cases h with rfl | ⟨hz, h1, h2, h3⟩
  · decide
  · have b4 := be_length 4 s.id
    have b2 := be_length 2 s.l1.toNat
    have e : s.bytes = be 4 s.id ++ (be 2 s.l1.toNat ++ ([0, 0] ++ (s.name ++ List.replicate (8 - s.name.length) 0))) := by rw [bytes, if_neg hz]; simp only [List.append_assoc]
    have e4 : s.bytes.take 4 = be 4 s.id := by rw [e, List.take_append_of_le_length (by omega), List.take_of_length_le (by omega)]
    have d4 : s.bytes.drop 4 = be 2 s.l1.toNat ++ ([0, 0] ++ (s.name ++ List.replicate (8 - s.name.length) 0)) := by rw [e, List.drop_append_of_le_length (by omega), List.drop_of_length_le (by omega), List.nil_append]
    have e2 : cut s.bytes 4 2 = be 2 s.l1.toNat := by rw [cut, d4, List.take_append_of_le_length (by omega), List.take_of_length_le (by omega)]
    have d8 : s.bytes.drop 8 = s.name ++ List.replicate (8 - s.name.length) 0 := by
      have h8 : s.bytes.drop 8 = (s.bytes.drop 4).drop 4 := by rw [List.drop_drop]
      rw [h8, d4, be2]
      rfl
    have hne : s.bytes ≠ List.replicate 16 0 := fun hq => by
      have h5 := congrArg (List.take 4) hq
      rw [e4, List.take_replicate] at h5
      exact zeros_head (k := 4) (n := s.id) (by omega) h1 h5
    rw [of, if_neg hne, e4, e2, d8, toName_name h3, un_bes, un_bes]
    obtain ⟨l, hl⟩ := Int.eq_ofNat_of_zero_le h2.1
    rw [Nat.mod_eq_of_lt (by omega), Nat.mod_eq_of_lt (by omega), Int.toNat_of_nonneg h2.1]
def good (b : List UInt8) : Bool := (of b).ok && decide ((of b).bytes = b)
theorem good_bytes {s : Sn} (h : s.ok = true) (hi : s.id < 4294967296) : good s.bytes = true := by simp [good, of_bytes h hi, h]
theorem of_small (b : List UInt8) : (of b).id < 4294967296 := by
  unfold of
  split
  · decide
  · have := un_lt (b.take 4)
    have h4 : (b.take 4).length ≤ 4 := by rw [List.length_take]; omega
    have h5 : 256 ^ (b.take 4).length ≤ 256 ^ 4 := Nat.pow_le_pow_right (by omega) h4
    exact Nat.lt_of_lt_of_le this h5
end Sn
/-! ### Dirty bitmaps -/
structure Dm where
  name : List UInt8
  use : Bool
  bits : List Bool
deriving DecidableEq
def bitRow (f : Nat → Bool) (b0 : List UInt8) (n : Nat) : List UInt8 := (List.range n).foldl (fun b k => if f k then b.set (8 + k / 8) (UInt8.ofNat ((b.getD (8 + k / 8) 0).toNat ||| 2 ^ (k % 8))) else b) b0
theorem bitRow_next (f : Nat → Bool) (b0 : List UInt8) (n : Nat) : bitRow f b0 (n + 1) = if f n then (bitRow f b0 n).set (8 + n / 8) (UInt8.ofNat (((bitRow f b0 n).getD (8 + n / 8) 0).toNat ||| 2 ^ (n % 8))) else bitRow f b0 n := by
  unfold bitRow
  rw [List.range_succ, List.foldl_append]
  rfl
theorem bitRow_length (f : Nat → Bool) (b0 : List UInt8) (n : Nat) : (bitRow f b0 n).length = b0.length := by
  induction n with
  | zero => rfl
  | succ n ih => rw [bitRow_next]; split <;> simp [ih]
theorem bitRow_low (f : Nat → Bool) (b0 : List UInt8) (n i : Nat) (hi : i < 8) : (bitRow f b0 n)[i]? = b0[i]? := by
  induction n with
  | zero => rfl
  | succ n ih =>
    rw [bitRow_next]
    split
    · rw [List.getElem?_set_ne (by omega), ih]
    · exact ih
theorem byte_or (a : UInt8) (k : Nat) (hk : k < 8) : (UInt8.ofNat (a.toNat ||| 2 ^ k)).toNat = a.toNat ||| 2 ^ k := by
  have h1 : a.toNat ||| 2 ^ k < 256 := Nat.or_lt_two_pow (n := 8) a.toNat_lt (Nat.pow_lt_pow_right (by omega) hk)
  rw [UInt8.toNat_ofNat', Nat.mod_eq_of_lt (by omega)]
theorem bitRow_bit (f : Nat → Bool) (b0 : List UInt8) (h0 : b0.length = 16) (hz : ∀ i, 8 ≤ i → i < 16 → b0.getD i 0 = 0) (n : Nat) (hn : n ≤ 64) (k : Nat) (hk : k < 64) : ((bitRow f b0 n).getD (8 + k / 8) 0).toNat.testBit (k % 8) = (decide (k < n) && f k) := by
  induction n with
  | zero =>
    show (b0.getD (8 + k / 8) 0).toNat.testBit (k % 8) = _
    rw [hz _ (by omega) (by omega)]
    simp
  | succ n ih =>
    have ih := ih (by omega)
    rw [bitRow_next]
    by_cases hf : f n = true
    · rw [if_pos hf]
      by_cases hj : n / 8 = k / 8
      · rw [hj, List.getD_eq_getElem?_getD, List.getElem?_set_self (by rw [bitRow_length, h0]; omega), Option.getD_some, byte_or _ _ (by omega), Nat.testBit_or, ih, Nat.testBit_two_pow]
        by_cases he : k = n
        · subst he; simp [hf]
        · have h1 : ¬ n % 8 = k % 8 := by omega
          have h2 : decide (k < n + 1) = decide (k < n) := by simp; omega
          simp [h1, h2]
      · rw [List.getD_eq_getElem?_getD, List.getElem?_set_ne (by omega), ← List.getD_eq_getElem?_getD, ih]
        have h2 : decide (k < n + 1) = decide (k < n) := by simp; omega
        rw [h2]
    · rw [if_neg hf, ih]
      by_cases he : k = n
      · subst he; simp [hf]
      · have h2 : decide (k < n + 1) = decide (k < n) := by simp; omega
        rw [h2]
namespace Dm
def zero : Dm := ⟨[], false, List.replicate 64 false⟩
def ok (m : Dm) : Bool := decide (m = zero) || nameOk m.name
def useByte (u : Bool) : UInt8 := if u then 1 else 0
def flags (u : Bool) : List UInt8 := useByte u :: List.replicate 15 0
def tail (m : Dm) : List UInt8 := bitRow (fun k => m.bits.getD k false) (flags m.use) 64
def bytes (m : Dm) : List UInt8 := if m = zero then List.replicate 64 0 else pad64 ((m.name ++ List.replicate (8 - m.name.length) 0) ++ m.tail)
def bitAt (b : List UInt8) (k : Nat) : Bool := (b.getD (16 + k / 8) 0).toNat.testBit (k % 8)
def of (b : List UInt8) : Dm := if b = List.replicate 64 0 then zero else ⟨(toNameR (b.take 8)).1, decide (b.getD 8 0 = 1), (List.range 64).map (bitAt b)⟩
theorem flags_length (u : Bool) : (flags u).length = 16 := by simp [flags]
theorem tail_length (m : Dm) : m.tail.length = 16 := by rw [tail, bitRow_length, flags_length]
theorem ok_cases {m : Dm} (h : m.ok = true) : m = zero ∨ (m ≠ zero ∧ nameOk m.name = true) := by
  by_cases hz : m = zero
  · exact .inl hz
  · refine .inr ⟨hz, ?_⟩
    simpa [ok, hz] using h
theorem bytes_length {m : Dm} (h : m.ok = true) : m.bytes.length = 64 := by
  rcases ok_cases h with rfl | ⟨hz, h3⟩
  · decide
  · have := nameOk_len h3
    rw [bytes, if_neg hz, pad64_length]
    simp [tail_length]
    omega
theorem bits_length (b : List UInt8) : (of b).bits.length = 64 := by
  unfold of
  split
  · decide
  · simp
theorem of_bytes {m : Dm} (h : m.ok = true) (hb : m.bits.length = 64) : of m.bytes = m := by
  rcases ok_cases h with rfl | ⟨hz, h3⟩
  · decide
  · have hl := nameOk_len h3
    have e : m.bytes = (m.name ++ List.replicate (8 - m.name.length) 0) ++ (m.tail ++ List.replicate 40 0) := by
      rw [bytes, if_neg hz, pad64, List.append_assoc]
      congr 3
      simp [tail_length]
      omega
    have n8 : (m.name ++ List.replicate (8 - m.name.length) (0 : UInt8)).length = 8 := by simp; omega
    have t8 : m.bytes.take 8 = m.name ++ List.replicate (8 - m.name.length) 0 := by rw [e, List.take_append_of_le_length (by omega), List.take_of_length_le (by omega)]
    have tl := tail_length m
    have g : ∀ i, i < 16 → m.bytes.getD (8 + i) 0 = m.tail.getD i 0 := fun i hi => by
      rw [e, List.getD_eq_getElem?_getD, List.getD_eq_getElem?_getD, List.getElem?_append_right (by omega), n8, List.getElem?_append_left (by omega)]
      congr 2; omega
    have hne : m.bytes ≠ List.replicate 64 0 := fun hq => by
      have h5 := congrArg (List.take 8) hq
      rw [t8, List.take_replicate] at h5
      cases hn : m.name with
      | nil => rw [hn] at h3; exact absurd h3 (by decide)
      | cons a l =>
        have h6 := nameOk_nonzero h3 a (by rw [hn]; exact List.mem_cons_self)
        rw [hn] at h5
        have h7 := (List.cons.inj (show a :: (l ++ List.replicate (8 - (a :: l).length) 0) = 0 :: List.replicate 7 0 from h5)).1
        exact h6 h7
    have z : ∀ i, 8 ≤ i → i < 16 → (flags m.use).getD i 0 = 0 := fun i h1 h2 => by
      obtain ⟨j, rfl⟩ : ∃ j, i = j + 1 := ⟨i - 1, by omega⟩
      show (List.replicate 15 (0 : UInt8)).getD j 0 = 0
      rw [List.getD_eq_getElem?_getD, List.getElem?_replicate]
      split <;> rfl
    have hu : decide (m.bytes.getD 8 0 = 1) = m.use := by
      have h8 := g 0 (by omega)
      rw [show 8 + 0 = 8 from rfl] at h8
      have hlow := bitRow_low (fun k => m.bits.getD k false) (flags m.use) 64 0 (by omega)
      rw [h8, List.getD_eq_getElem?_getD, tail, hlow]
      cases m.use <;> decide
    have hbits : (List.range 64).map (bitAt m.bytes) = m.bits := by
      apply List.ext_getElem?
      intro k
      by_cases hk : k < 64
      · rw [List.getElem?_map, List.getElem?_range hk]
        show some (bitAt m.bytes k) = _
        have e1 : bitAt m.bytes k = m.bits.getD k false := by
          have e2 : m.bytes.getD (16 + k / 8) 0 = m.tail.getD (8 + k / 8) 0 := by
            have := g (8 + k / 8) (by omega)
            rw [← this]
            congr 1; omega
          rw [bitAt, e2, tail, bitRow_bit _ _ (flags_length _) z 64 (by omega) k hk, decide_eq_true hk, Bool.true_and]
        rw [e1, List.getD_eq_getElem?_getD, List.getElem?_eq_getElem (by omega)]
        rfl
      · rw [List.getElem?_eq_none (by simp; omega), List.getElem?_eq_none (by omega)]
    rw [of, if_neg hne, t8, toName_name h3, hu, hbits]
def good (b : List UInt8) : Bool := (of b).ok && decide ((of b).bytes = b)
theorem good_bytes {m : Dm} (h : m.ok = true) (hb : m.bits.length = 64) : good m.bytes = true := by simp [good, of_bytes h hb, h]
end Dm
namespace Pn
variable {D : Dk} {L X : Pn}
def snSec (i : Int) : Int := 2 + i / 4
def snOff (i : Int) : Int := 16 * (i % 4)
def snGet (D : Dk) (L : Pn) (i : Nat) : Sn × Int :=
  if (look D L (snSec i)).2 ≠ 0 then (Sn.zero, (look D L (snSec i)).2) else if Sn.good (cut (look D L (snSec i)).1 (snOff i).toNat 16) = true then (Sn.of (cut (look D L (snSec i)).1 (snOff i).toNat 16), 0) else (Sn.zero, 14)
def snaps (D : Dk) (L : Pn) : List Sn × Int := allN (snGet D L) 8
def snSet (D : Dk) (L : Pn) (i : Int) (s : Sn) : Pn × Int := if i < 0 ∨ 8 ≤ i then (L, 10) else if s.ok = false then (L, 25) else patch D L (snSec i) (snOff i) s.bytes
def dmGet (D : Dk) (L : Pn) (i : Nat) : Dm × Int :=
  if (look D L (4 + i)).2 ≠ 0 then (Dm.zero, (look D L (4 + i)).2) else if Dm.good (look D L (4 + i)).1 = true then (Dm.of (look D L (4 + i)).1, 0) else (Dm.zero, 14)
def maps (D : Dk) (L : Pn) : List Dm × Int := allN (dmGet D L) 2
def dmSet (L : Pn) (i : Int) (m : Dm) : Pn × Int := if i < 0 ∨ 2 ≤ i then (L, 10) else if m.ok = false then (L, 25) else L.set (4 + i) m.bytes
def rtSet (L : Pn) (l : Int) (n : Nat) : Pn × Int := if l < 0 ∨ 256 ≤ l then (L, 10) else L.set 1 (rtHead l.toNat n)
theorem snSet_not {i : Int} {s : Sn} (h : (snSet D L i s).2 ≠ 0) : (snSet D L i s).1 = L := by
  revert h; unfold snSet
  split; exact fun _ => rfl
  split; exact fun _ => rfl
  exact patch_not
theorem dmSet_not {i : Int} {m : Dm} (h : (dmSet L i m).2 ≠ 0) : (dmSet L i m).1 = L := by
  revert h; unfold dmSet
  split; exact fun _ => rfl
  split; exact fun _ => rfl
  exact fun h => set_not h
theorem rtSet_not {l : Int} {n : Nat} (h : (rtSet L l n).2 ≠ 0) : (rtSet L l n).1 = L := by
  revert h; unfold rtSet
  split; exact fun _ => rfl
  exact fun h => set_not h
theorem snSet_ok {i : Int} {s : Sn} (hD : D.fit = true) (hL : L.Fit) (h : snSet D L i s = (X, 0)) :
    0 ≤ i ∧ i < 8 ∧ s.ok = true ∧ X.Fit ∧ (∀ o, o ≠ snSec i → look D X o = look D L o) ∧ ∀ k : Nat, k < 8 → (snGet D X k).2 = (snGet D L k).2 ∨ (k : Int) = i := by
  unfold snSet at h
  split at h
  · exact absurd (Prod.mk.inj h).2 (by decide)
  split at h
  · exact absurd (Prod.mk.inj h).2 (by decide)
  rename_i h1 h2
  obtain ⟨p1, p2, p3, p4⟩ := patch_look hD hL h
  obtain ⟨q1, q2, q3, _⟩ := patch_ok hD hL h
  have hl := look_full hD hL q1
  have hbl := Sn.bytes_length (s := s) (by simpa using h2)
  refine ⟨by omega, by omega, by simpa using h2, p1, p3, fun k hk => ?_⟩
  by_cases hki : (k : Int) = i
  · exact .inr hki
  · left
    unfold snGet
    by_cases hs : snSec k = snSec i
    · rw [hs, p2, q1]
      simp only [ne_eq, not_true_eq_false, if_false]
      rw [cut_over_other (by rw [hbl, hl]; omega) (by unfold snOff snSec at *; omega)]
    · rw [p3 _ hs]
theorem snSet_get {i : Int} {s : Sn} (hD : D.fit = true) (hL : L.Fit) (hs : s.id < 4294967296) (h : snSet D L i s = (X, 0)) (k : Nat) : snGet D X k = if (k : Int) = i then (s, 0) else snGet D L k := by
  unfold snSet at h
  split at h
  · exact absurd (Prod.mk.inj h).2 (by decide)
  split at h
  · exact absurd (Prod.mk.inj h).2 (by decide)
  rename_i h1 h2
  have hok : s.ok = true := by simpa using h2
  obtain ⟨p1, p2, p3, p4⟩ := patch_look hD hL h
  obtain ⟨q1, q2, q3, _⟩ := patch_ok hD hL h
  have hl := look_full hD hL q1
  have hbl := Sn.bytes_length hok
  by_cases hki : (k : Int) = i
  · rw [if_pos hki]
    unfold snGet
    rw [hki, p2]
    simp only [ne_eq, not_true_eq_false, if_false]
    have e := cut_over (s := (look D L (snSec i)).1) (t := s.bytes) (o := (snOff i).toNat) (by rw [hbl, hl]; omega)
    rw [hbl] at e
    rw [e, if_pos (Sn.good_bytes hok hs), Sn.of_bytes hok hs]
  · rw [if_neg hki]
    unfold snGet
    by_cases hs : snSec k = snSec i
    · rw [hs, p2, q1]
      simp only [ne_eq, not_true_eq_false, if_false]
      rw [cut_over_other (by rw [hbl, hl]; omega) (by unfold snOff snSec at *; omega)]
    · rw [p3 _ hs]
theorem dmSet_ok {i : Int} {m : Dm} (hL : L.Fit) (hb : m.bits.length = 64) (h : dmSet L i m = (X, 0)) (D : Dk) :
    0 ≤ i ∧ i < 2 ∧ m.ok = true ∧ X.Fit ∧ (∀ o, o ≠ 4 + i → look D X o = look D L o) ∧ ∀ k : Nat, k < 2 → dmGet D X k = if (k : Int) = i then (m, 0) else dmGet D L k := by
  unfold dmSet at h
  split at h
  · exact absurd (Prod.mk.inj h).2 (by decide)
  split at h
  · exact absurd (Prod.mk.inj h).2 (by decide)
  rename_i h1 h2
  have hok : m.ok = true := by simpa using h2
  have hf := set_fit hL (4 + i) m.bytes
  have hs := look_set hL (k := 4 + i) (s := m.bytes) (by rw [h]) D
  rw [h] at hf hs
  refine ⟨by omega, by omega, hok, hf, hs.2, fun k hk => ?_⟩
  unfold dmGet
  by_cases hki : (k : Int) = i
  · rw [if_pos hki, hki, hs.1]
    simp only [ne_eq, not_true_eq_false, if_false]
    rw [if_pos (Dm.good_bytes hok hb), Dm.of_bytes hok hb]
  · rw [if_neg hki, hs.2 _ (by omega)]
theorem rtSet_ok {l : Int} {n : Nat} (hL : L.Fit) (hn : n < 4294967296) (h : rtSet L l n = (X, 0)) (D : Dk) : 0 ≤ l ∧ l < 256 ∧ X.Fit ∧ rtGet D X = ((l.toNat, n), 0) := by
  unfold rtSet at h
  split at h
  · exact absurd (Prod.mk.inj h).2 (by decide)
  rename_i h1
  have hf := set_fit hL 1 (rtHead l.toNat n)
  have hs := look_set hL (k := 1) (s := rtHead l.toNat n) (by rw [h]) D
  rw [h] at hf hs
  refine ⟨by omega, by omega, hf, ?_⟩
  unfold rtGet
  rw [hs.1]
  simp only [ne_eq, not_true_eq_false, if_false]
  exact rtOf_head (by omega) hn
end Pn
end Go.Proofs.YtjhnaeomaigimaaGreatDoor
