/- Tables in clusters: the plain words and laws. Nothing of the program stands here. Tables: what is set is what is told. Nothing of the program stands here. Package root: an image's root, the plain words and laws. Nothing of the program stands here. Package point: where the guest's clusters are, the plain words and laws. Nothing of the program stands here. Package point: more plain laws. Nothing of the program stands here. -/
import Derived.Test.YtlapjkbefkmohaaGreatSdPlain1
namespace Go.Proofs.YtlapjkbefkmohaaGreat

theorem be_un : ∀ (l : List UInt8), be l.length (un l) = l := by
 intro l
 induction l with
 | nil => rfl
 | cons c l ih =>
  have e : un (c :: l) = c.toNat * 256 ^ l.length + un l := by
   have := un_cat [c] l
   simpa [un] using this
  have hl := un_lt l
  show be (l.length + 1) (un (c :: l)) = _
  rw [be, e]
  have h1 : (c.toNat * 256 ^ l.length + un l) / 256 ^ l.length = c.toNat := by
   rw [Nat.mul_comm, Nat.mul_add_div (Nat.pow_pos (by omega)), Nat.div_eq_of_lt hl]; omega
  have h2 : be l.length (c.toNat * 256 ^ l.length + un l) = be l.length (un l) := by
   rw [be_mod, Nat.mul_comm, Nat.mul_add_mod, Nat.mod_eq_of_lt hl]
  rw [h1, h2, ih]
  simp
theorem be_cat (a b n : Nat) : be (a + b) n = be a (n / 256 ^ b) ++ be b n := by
 have h : un (be a (n / 256 ^ b) ++ be b n) = n % 256 ^ (a + b) := by
  rw [un_cat, un_bes, un_bes, be_length, Nat.pow_add, Nat.mul_comm (256 ^ a), Nat.mod_mul, Nat.mul_comm, Nat.add_comm]
 have h2 := be_un (be a (n / 256 ^ b) ++ be b n)
 rw [h, List.length_append, be_length, be_length, ← be_mod] at h2
 exact h2
namespace Pn
/-- Is it an entry? -/
def entOk (K A : Int) : Bool := if K = 1 then decide (0 ≤ A) && decide (A < 256) else (decide (K = 0) || decide (K = 2)) && decide (A = 0)
theorem entOk_iff {K A : Int} : entOk K A = true ↔ (K = 1 ∧ 0 ≤ A ∧ A < 256) ∨ ((K = 0 ∨ K = 2) ∧ A = 0) := by
 unfold entOk
 split
 · rename_i h; subst h; simp
 · rename_i h; simp [h]
theorem entOk_small {K A : Int} (h : entOk K A = true) : 0 ≤ K ∧ K ≤ 2 ∧ 0 ≤ A ∧ A < 256 := by
 rcases entOk_iff.1 h with ⟨a, b, c⟩ | ⟨a | a, b⟩ <;> omega
def refused (t i : Int) : Prop := (t < 0 ∨ 256 ≤ t) ∨ (i < 0 ∨ 16 ≤ i)
instance (t i : Int) : Decidable (refused t i) := inferInstanceAs (Decidable (_ ∨ _))
/-- The entry that stands in eight bytes. -/
def entOf (s : List UInt8) : (Int × Int) × Int := if entOk ((un s / 72057594037927936 : Nat) : Int) ((un s % 72057594037927936 : Nat) : Int) then ((((un s / 72057594037927936 : Nat) : Int), ((un s % 72057594037927936 : Nat) : Int)), 0) else ((0, 0), 14)
def entBytes (K A : Int) : List UInt8 := be 8 (K.toNat * 72057594037927936 + A.toNat)
theorem entBytes_length (K A : Int) : (entBytes K A).length = 8 := be_length _ _
def entAt (t i : Int) : Int := 96 + 2 * t + i / 8
def entOff (i : Int) : Int := 8 * (i % 8)
def tabGet (D : Dk) (L : Pn) (t i : Int) : (Int × Int) × Int :=
 if refused t i then ((0, 0), 10) else if (look D L (entAt t i)).2 ≠ 0 then ((0, 0), (look D L (entAt t i)).2) else entOf (cut (look D L (entAt t i)).1 (entOff i).toNat 8)
def tabSet (D : Dk) (L : Pn) (t i K A : Int) : Pn × Int :=
 if refused t i then (L, 10) else if entOk K A = false then (L, 23) else patch D L (entAt t i) (entOff i) (entBytes K A)
def set2 (L : Pn) (t : Int) (half : Pn → Int → List UInt8 × Int) : Pn × Int :=
 if (half L 0).2 ≠ 0 then (L, (half L 0).2) else if (L.set (96 + 2 * t) (half L 0).1).2 ≠ 0 then (L, (L.set (96 + 2 * t) (half L 0).1).2)
 else if (half (L.set (96 + 2 * t) (half L 0).1).1 1).2 ≠ 0 then (L, (half (L.set (96 + 2 * t) (half L 0).1).1 1).2)
 else if ((L.set (96 + 2 * t) (half L 0).1).1.set (96 + 2 * t + 1) (half (L.set (96 + 2 * t) (half L 0).1).1 1).1).2 ≠ 0 then (L, ((L.set (96 + 2 * t) (half L 0).1).1.set (96 + 2 * t + 1) (half (L.set (96 + 2 * t) (half L 0).1).1 1).1).2)
 else (((L.set (96 + 2 * t) (half L 0).1).1.set (96 + 2 * t + 1) (half (L.set (96 + 2 * t) (half L 0).1).1 1).1).1, 0)
def tabBlank (L : Pn) (t : Int) : Pn × Int := if t < 0 ∨ 256 ≤ t then (L, 10) else set2 L t fun _ _ => (List.replicate 64 0, 0)
def tabCopy (D : Dk) (L : Pn) (f t : Int) : Pn × Int := if (f < 0 ∨ 256 ≤ f) ∨ (t < 0 ∨ 256 ≤ t) then (L, 10) else set2 L t fun Q i => look D Q (96 + 2 * f + i)
def tabFind (D : Dk) (L : Pn) (l1 g : Int) : (Int × Int) × Int :=
 if g < 0 ∨ 64 ≤ g then ((0, 0), 10) else if (tabGet D L l1 (g / 16)).2 ≠ 0 ∨ (tabGet D L l1 (g / 16)).1.1 = 0 then ((0, 0), (tabGet D L l1 (g / 16)).2)
 else if (tabGet D L l1 (g / 16)).1.1 = 2 then ((0, 0), 14) else tabGet D L (tabGet D L l1 (g / 16)).1.2 (g % 16)
/-! ### Entries -/
theorem entOf_ok {s : List UInt8} (h : (entOf s).2 = 0) : entOk (entOf s).1.1 (entOf s).1.2 = true := by
 rw [entOf] at h ⊢
 split
 · rename_i h1; exact h1
 · rename_i h1; rw [if_neg h1] at h; simp at h
theorem entOf_bytes {K A : Int} (h : entOk K A = true) : entOf (entBytes K A) = ((K, A), 0) := by
 obtain ⟨h1, h2, h3, h4⟩ := entOk_small h
 obtain ⟨k, rfl⟩ := Int.eq_ofNat_of_zero_le h1
 obtain ⟨a, rfl⟩ := Int.eq_ofNat_of_zero_le h3
 have e : un (entBytes (k : Int) (a : Int)) = k * 72057594037927936 + a := by
  rw [entBytes, un_bes, Int.toNat_natCast, Int.toNat_natCast, Nat.mod_eq_of_lt]
  have : (256 : Nat) ^ 8 = 18446744073709551616 := by decide
  omega
 rw [entOf, e]
 have e1 : (k * 72057594037927936 + a) / 72057594037927936 = k := by omega
 have e2 : (k * 72057594037927936 + a) % 72057594037927936 = a := by omega
 rw [e1, e2, if_pos h]
/-- The document's way to read an entry. -/
theorem entOf_ref {s : List UInt8} (hl : s.length = 8) :
 entOf s = if entOk (un (s.take 1) : Nat) (un (s.drop 4) : Nat) = true ∧ (be 1 (un (s.take 1)) ++ [0, 0, 0]) ++ be 4 (un (s.drop 4)) = s then ((((un (s.take 1) : Nat) : Int), ((un (s.drop 4) : Nat) : Int)), 0) else ((0, 0), 14) := by
 have e1 : un s = un (s.take 1) * 256 ^ 7 + un (s.drop 1) := by
  have := un_cat (s.take 1) (s.drop 1)
  rw [List.take_append_drop, List.length_drop, hl] at this
  exact this
 have b1 := un_lt (s.take 1)
 have b2 := un_lt (s.drop 1)
 have b3 := un_lt (s.drop 4)
 have b4 := un_lt ((s.drop 1).take 3)
 have l1 : (s.take 1).length = 1 := by simp; omega
 have l2 : (s.drop 1).length = 7 := by simp; omega
 have l3 : (s.drop 4).length = 4 := by simp; omega
 have l4 : ((s.drop 1).take 3).length = 3 := by simp; omega
 rw [l1] at b1
 rw [l2] at b2
 rw [l3] at b3
 rw [l4] at b4
 have e2 : un (s.drop 1) = un ((s.drop 1).take 3) * 256 ^ 4 + un (s.drop 4) := by
  have := un_cat ((s.drop 1).take 3) ((s.drop 1).drop 3)
  rw [List.take_append_drop, List.drop_drop] at this
  rw [this, show (s.drop (1 + 3)).length = 4 from l3]
 have p7 : (256 : Nat) ^ 7 = 72057594037927936 := by decide
 have p4 : (256 : Nat) ^ 4 = 4294967296 := by decide
 have p3 : (256 : Nat) ^ 3 = 16777216 := by decide
 rw [p7] at e1 b2
 rw [p4] at e2 b3
 rw [p3] at b4
 have f1 : un s / 72057594037927936 = un (s.take 1) := by omega
 have f2 : un s % 72057594037927936 = un (s.drop 1) := by omega
 have back : (be 1 (un (s.take 1)) ++ [0, 0, 0]) ++ be 4 (un (s.drop 4)) = s ↔ un ((s.drop 1).take 3) = 0 := by
  have s1 := be_un (s.take 1)
  have s4 := be_un (s.drop 4)
  have s3 := be_un ((s.drop 1).take 3)
  rw [l1] at s1
  rw [l3] at s4
  rw [l4] at s3
  rw [s1, s4]
  have hs : s = s.take 1 ++ (s.drop 1).take 3 ++ s.drop 4 := by
   have h1 := List.take_append_drop 1 s
   have h2 := List.take_append_drop 3 (s.drop 1)
   rw [List.drop_drop] at h2
   rw [List.append_assoc, h2, h1]
  constructor
  · intro h
    have : (s.take 1 ++ [0, 0, 0]) ++ s.drop 4 = s.take 1 ++ (s.drop 1).take 3 ++ s.drop 4 := h.trans hs
    have := List.append_cancel_left (List.append_cancel_right this)
    rw [← this]; rfl
  · intro h
    rw [h] at s3
    have : [0, 0, 0] = (s.drop 1).take 3 := s3
    rw [this]; exact hs.symm
 rw [entOf, f1, f2]
 by_cases hz : un ((s.drop 1).take 3) = 0
 · have g : un (s.drop 1) = un (s.drop 4) := by omega
   rw [g]
   by_cases ho : entOk (un (s.take 1) : Nat) (un (s.drop 4) : Nat) = true
   · rw [if_pos ho, if_pos ⟨ho, back.2 hz⟩]
   · rw [if_neg ho, if_neg (fun h => ho h.1)]
 · rw [if_neg (fun h => by have := (entOk_small h).2.2.2; omega), if_neg (fun h => hz (back.1 h.2))]
end Pn
end Go.Proofs.YtlapjkbefkmohaaGreat
namespace Go.Proofs.YtlapjkbefkmohaaGreat
namespace Pn
variable {D : Dk} {L X : Pn}
theorem tabGet_refused {t i : Int} (h : refused t i) : tabGet D L t i = ((0, 0), 10) := by rw [tabGet, if_pos h]
theorem tabGet_ok {t i : Int} (h : (tabGet D L t i).2 = 0) : entOk (tabGet D L t i).1.1 (tabGet D L t i).1.2 = true := by
 revert h
 rw [tabGet]
 split
 · intro h; simp at h
 · split
   · rename_i h; intro h2; exact absurd h2 h
   · exact entOf_ok
theorem tabGet_err {t i : Int} (h : (tabGet D L t i).2 ≠ 0) : (tabGet D L t i).1 = (0, 0) := by
 revert h
 rw [tabGet]
 split
 · intro _; rfl
 · split
   · intro _; rfl
   · rw [entOf]; split
     · intro h; exact absurd rfl h
     · intro _; rfl
theorem tabGet_small (D : Dk) (L : Pn) (t i : Int) : 0 ≤ (tabGet D L t i).1.1 ∧ (tabGet D L t i).1.1 ≤ 2 ∧ 0 ≤ (tabGet D L t i).1.2 ∧ (tabGet D L t i).1.2 < 256 := by
 by_cases h : (tabGet D L t i).2 = 0
 · exact entOk_small (tabGet_ok h)
 · rw [tabGet_err h]; simp
/-- Entries hang on the sectors alone. -/
theorem tabGet_congr {E : Dk} {M : Pn} {t u i : Int} (ht : 0 ≤ t ∧ t < 256) (hu : 0 ≤ u ∧ u < 256) (h : 0 ≤ i → i < 16 → look D L (entAt t i) = look E M (entAt u i)) : tabGet D L t i = tabGet E M u i := by
 by_cases hi : i < 0 ∨ 16 ≤ i
 · rw [tabGet_refused (.inr hi), tabGet_refused (.inr hi)]
 · have r1 : ¬ refused t i := fun h => by unfold refused at h; omega
   have r2 : ¬ refused u i := fun h => by unfold refused at h; omega
   rw [tabGet, tabGet, if_neg r1, if_neg r2, h (by omega) (by omega)]
theorem tabSet_not {t i K A : Int} (h : (tabSet D L t i K A).2 ≠ 0) : (tabSet D L t i K A).1 = L := by
 revert h
 rw [tabSet]
 split
 · intro _; rfl
 · split
   · intro _; rfl
   · exact patch_not
theorem tabSet_ok {t i K A : Int} (hD : D.fit = true) (hL : L.Fit) (h : tabSet D L t i K A = (X, 0)) :
 X.Fit ∧ tabGet D X t i = ((K, A), 0) ∧ ∀ o k, (o ≠ t ∨ k ≠ i) → tabGet D X o k = tabGet D L o k := by
 rw [tabSet] at h
 split at h
 · injection h with _ h; simp at h
 · rename_i hr
   split at h
   · injection h with _ h; simp at h
   · rename_i he
     have he : entOk K A = true := by simpa using he
     have hr' : (0 ≤ t ∧ t < 256) ∧ 0 ≤ i ∧ i < 16 := by unfold refused at hr; omega
     obtain ⟨p1, p2, p3, p4⟩ := patch_look hD hL h
     obtain ⟨q1, q2, q3, _⟩ := patch_ok hD hL h
     have hl := look_full hD hL q1
     rw [entBytes_length] at q3
     refine ⟨p1, ?_, fun o k hok => ?_⟩
     · rw [tabGet, if_neg hr, p2]
       simp only [ne_eq, not_true_eq_false, if_false]
       have e := cut_over (s := (look D L (entAt t i)).1) (t := entBytes K A) (o := (entOff i).toNat) (by rw [entBytes_length, hl]; exact q3)
       rw [entBytes_length] at e
       rw [e, entOf_bytes he]
     · by_cases hk : refused o k
       · rw [tabGet_refused hk, tabGet_refused hk]
       · rw [tabGet, tabGet, if_neg hk, if_neg hk]
         have hk' : (0 ≤ o ∧ o < 256) ∧ 0 ≤ k ∧ k < 16 := by unfold refused at hk; omega
         by_cases hs : entAt o k = entAt t i
         · rw [hs, p2, q1]
           simp only [ne_eq, not_true_eq_false, if_false]
           rw [cut_over_other (by rw [entBytes_length, hl]; exact q3) (by rw [entBytes_length]; unfold entOff at q3 ⊢; unfold entAt at hs; omega)]
         · rw [p3 _ hs]
theorem set2_not {t : Int} {half : Pn → Int → List UInt8 × Int} (h : (set2 L t half).2 ≠ 0) : (set2 L t half).1 = L := by
 revert h
 rw [set2]
 split
 · intro _; rfl
 · split
   · intro _; rfl
   · split
     · intro _; rfl
     · split
       · intro _; rfl
       · intro h; exact absurd rfl h
theorem set2_ok {t : Int} {half : Pn → Int → List UInt8 × Int} (hL : L.Fit) (h : set2 L t half = (X, 0)) :
 ∃ s0 s1 M, half L 0 = (s0, 0) ∧ L.set (96 + 2 * t) s0 = (M, 0) ∧ half M 1 = (s1, 0) ∧ M.set (96 + 2 * t + 1) s1 = (X, 0) ∧ M.Fit ∧ X.Fit ∧
  ∀ D, look D X (96 + 2 * t) = (s0, 0) ∧ look D X (96 + 2 * t + 1) = (s1, 0) ∧ ∀ o, o ≠ 96 + 2 * t → o ≠ 96 + 2 * t + 1 → look D X o = look D L o := by
 rw [set2] at h
 split at h
 · rename_i h0; injection h with _ h; exact absurd h h0
 · rename_i h0
   split at h
   · rename_i h1; injection h with _ h; exact absurd h h1
   · rename_i h1
     split at h
     · rename_i h2; injection h with _ h; exact absurd h h2
     · rename_i h2
       split at h
       · rename_i h3; injection h with _ h; exact absurd h h3
       · rename_i h3
         injection h with h _
         have h0 : (half L 0).2 = 0 := by simpa using h0
         have h1 : (L.set (96 + 2 * t) (half L 0).1).2 = 0 := by simpa using h1
         have h2 : (half (L.set (96 + 2 * t) (half L 0).1).1 1).2 = 0 := by simpa using h2
         have h3 : ((L.set (96 + 2 * t) (half L 0).1).1.set (96 + 2 * t + 1) (half (L.set (96 + 2 * t) (half L 0).1).1 1).1).2 = 0 := by simpa using h3
         have f1 := set_fit hL (96 + 2 * t) (half L 0).1
         have f2 := set_fit f1 (96 + 2 * t + 1) (half (L.set (96 + 2 * t) (half L 0).1).1 1).1
         refine ⟨_, _, _, Prod.ext rfl h0, Prod.ext rfl h1, Prod.ext rfl h2, Prod.ext h h3, f1, by rw [← h]; exact f2, fun D => ?_⟩
         obtain ⟨a1, a2⟩ := look_set hL h1 D
         obtain ⟨b1, b2⟩ := look_set f1 h3 D
         rw [h] at b1 b2
         exact ⟨by rw [b2 _ (by omega), a1], b1, fun o ho ho' => by rw [b2 o ho', a2 o ho]⟩
theorem tabBlank_not {t : Int} (h : (tabBlank L t).2 ≠ 0) : (tabBlank L t).1 = L := by
 revert h
 rw [tabBlank]
 split
 · intro _; rfl
 · exact set2_not
theorem tabCopy_not {f t : Int} (h : (tabCopy D L f t).2 ≠ 0) : (tabCopy D L f t).1 = L := by
 revert h
 rw [tabCopy]
 split
 · intro _; rfl
 · exact set2_not
theorem entOf_zero : entOf (List.replicate 8 0) = ((0, 0), 0) := by decide
theorem tabBlank_ok {t : Int} (hL : L.Fit) (h : tabBlank L t = (X, 0)) : X.Fit ∧ (0 ≤ t ∧ t < 256) ∧ (∀ i, 0 ≤ i → i < 16 → tabGet D X t i = ((0, 0), 0)) ∧ ∀ o k, o ≠ t → tabGet D X o k = tabGet D L o k := by
 rw [tabBlank] at h
 split at h
 · injection h with _ h; simp at h
 · rename_i ht
   obtain ⟨s0, s1, M, h1, h2, h3, h4, _, hX, hs⟩ := set2_ok hL h
   injection h1 with h1 _
   injection h3 with h3 _
   obtain ⟨a, b, c⟩ := hs D
   refine ⟨hX, by omega, fun i hi hi2 => ?_, fun o k ho => ?_⟩
   · have hr : ¬ refused t i := fun h => by unfold refused at h; omega
     rw [tabGet, if_neg hr]
     have e : look D X (entAt t i) = (List.replicate 64 0, 0) := by
      rcases (show entAt t i = 96 + 2 * t ∨ entAt t i = 96 + 2 * t + 1 by unfold entAt; omega) with h | h
      · rw [h, a, ← h1]
      · rw [h, b, ← h3]
     rw [e, if_neg (by simp)]
     have : cut (List.replicate 64 (0 : UInt8)) (entOff i).toNat 8 = List.replicate 8 0 := by
      rw [cut, List.drop_replicate, List.take_replicate]
      congr 1
      unfold entOff; omega
     rw [this, entOf_zero]
   · by_cases hr : o < 0 ∨ 256 ≤ o
     · rw [tabGet_refused (.inl hr), tabGet_refused (.inl hr)]
     · exact tabGet_congr (by omega) (by omega) (fun hi hi2 => c _ (by unfold entAt; omega) (by unfold entAt; omega))
theorem tabCopy_ok {f t : Int} (hL : L.Fit) (h : tabCopy D L f t = (X, 0)) : X.Fit ∧ (∀ i, tabGet D X t i = tabGet D L f i) ∧ ∀ o k, o ≠ t → tabGet D X o k = tabGet D L o k := by
 rw [tabCopy] at h
 split at h
 · injection h with _ h; simp at h
 · rename_i ht
   obtain ⟨s0, s1, M, h1, h2, h3, h4, _, hX, hs⟩ := set2_ok hL h
   obtain ⟨a, b, c⟩ := hs D
   have h5 := (look_set hL (k := 96 + 2 * t) (s := s0) (by rw [h2]) D).2 (96 + 2 * f + 1) (by omega)
   rw [h2] at h5
   have h3 : look D M (96 + 2 * f + 1) = (s1, 0) := h3
   have h1 : look D L (96 + 2 * f + 0) = (s0, 0) := h1
   refine ⟨hX, fun i => ?_, fun o k ho => ?_⟩
   · refine tabGet_congr (by omega) (by omega) (fun hi hi2 => ?_)
     rcases (show (entAt t i = 96 + 2 * t ∧ entAt f i = 96 + 2 * f + 0) ∨ (entAt t i = 96 + 2 * t + 1 ∧ entAt f i = 96 + 2 * f + 1) by unfold entAt; omega) with ⟨h, h'⟩ | ⟨h, h'⟩
     · rw [h, h', a, h1]
     · rw [h, h', b, ← h5, h3]
   · by_cases hr : o < 0 ∨ 256 ≤ o
     · rw [tabGet_refused (.inl hr), tabGet_refused (.inl hr)]
     · exact tabGet_congr (by omega) (by omega) (fun hi hi2 => c _ (by unfold entAt; omega) (by unfold entAt; omega))
theorem tabFind_small (D : Dk) (L : Pn) (t g : Int) : 0 ≤ (tabFind D L t g).1.1 ∧ (tabFind D L t g).1.1 ≤ 2 ∧ 0 ≤ (tabFind D L t g).1.2 ∧ (tabFind D L t g).1.2 < 256 := by
 rw [tabFind]
 split
 · simp
 · split
   · simp
   · split
     · simp
     · exact tabGet_small _ _ _ _
end Pn
end Go.Proofs.YtlapjkbefkmohaaGreat

namespace Go.Proofs.YtlapjkbefkmohaaGreat
def magicR : List UInt8 := [67, 79, 70, 82]
def rtBody (l n : Nat) : List UInt8 := magicR ++ be 2 l ++ be 4 n
def rtHead (l n : Nat) : List UInt8 := pad64 (rtBody l n ++ be 4 (crcOf (rtBody l n)))
theorem rtBody_length (l n : Nat) : (rtBody l n).length = 10 := by simp [rtBody, magicR, be_length]
theorem rtHead_length (l n : Nat) : (rtHead l n).length = 64 := pad64_length (by simp [rtBody_length, be_length])
/-- A root, as it stands in a sector. -/
def rtOf (s : List UInt8) : (Nat × Nat) × Int :=
 if s.take 4 ≠ magicR then ((0, 0), 14) else if be 4 (crcOf (s.take 10)) ≠ (s.drop 10).take 4 then ((0, 0), 15)
 else if 256 ≤ un ((s.drop 4).take 2) ∨ rtHead (un ((s.drop 4).take 2)) (un ((s.drop 6).take 4)) ≠ s then ((0, 0), 14) else ((un ((s.drop 4).take 2), un ((s.drop 6).take 4)), 0)
def Pn.rtGet (D : Dk) (L : Pn) : (Nat × Nat) × Int := if (Pn.look D L 1).2 ≠ 0 then ((0, 0), (Pn.look D L 1).2) else rtOf (Pn.look D L 1).1
end Go.Proofs.YtlapjkbefkmohaaGreat
namespace Go.Proofs.YtlapjkbefkmohaaGreat
namespace Pn
/-- A step on a plan, if there was no error yet. -/
def step (s : Pn × Int) (f : Pn → Pn × Int) : Pn × Int := if s.2 ≠ 0 then s else f s.1
theorem step_zero {s : Pn × Int} {f : Pn → Pn × Int} (h : s.2 = 0) : step s f = f s.1 := by unfold step; rw [if_neg (by rw [h]; simp)]
theorem step_err {s : Pn × Int} {f : Pn → Pn × Int} (h : s.2 ≠ 0) : step s f = s := by unfold step; rw [if_pos h]
theorem step_fit {s : Pn × Int} {f : Pn → Pn × Int} (h : s.1.Fit) (hf : ∀ X : Pn, X.Fit → (f X).1.Fit) : (step s f).1.Fit := by
 unfold step
 split
 · exact h
 · exact hf _ h
/-- A table that is taken, filled, and set. -/
def freshSteps (D : Dk) (L : Pn) (h l1 i f : Int) : Pn × Int :=
 step (step (step ((alTake D L h).1, (alTake D L h).2.2) fun X => if f < 0 then tabBlank X (alTake D L h).2.1 else tabCopy D X f (alTake D L h).2.1) fun X => if f < 0 then (X, 0) else cntAdd D X f (-1)) fun X => tabSet D X l1 i 1 (alTake D L h).2.1
def ptFresh (D : Dk) (L : Pn) (h l1 i f : Int) : Pn × Int × Int := if (freshSteps D L h l1 i f).2 ≠ 0 then (L, 0, (freshSteps D L h l1 i f).2) else ((freshSteps D L h l1 i f).1, (alTake D L h).2.1, 0)
/-- The guest's own second table. -/
def ptOwn (D : Dk) (L : Pn) (g h u : Int) : Pn × Int × Int :=
 if u < 0 ∨ g ≤ u then (L, 0, 10) else if (rtGet D L).2 ≠ 0 then (L, 0, (rtGet D L).2)
 else if (tabGet D L (rtGet D L).1.1 (u / 16)).2 ≠ 0 then (L, 0, (tabGet D L (rtGet D L).1.1 (u / 16)).2)
 else if (tabGet D L (rtGet D L).1.1 (u / 16)).1.1 = 2 then (L, 0, 14)
 else if (tabGet D L (rtGet D L).1.1 (u / 16)).1.1 = 0 then ptFresh D L h (rtGet D L).1.1 (u / 16) (-1)
 else if (cntGet D L (tabGet D L (rtGet D L).1.1 (u / 16)).1.2).2 ≠ 0 then (L, 0, (cntGet D L (tabGet D L (rtGet D L).1.1 (u / 16)).1.2).2)
 else if (cntGet D L (tabGet D L (rtGet D L).1.1 (u / 16)).1.2).1 ≤ 1 then (L, (tabGet D L (rtGet D L).1.1 (u / 16)).1.2, 0)
 else ptFresh D L h (rtGet D L).1.1 (u / 16) (tabGet D L (rtGet D L).1.1 (u / 16)).1.2
/-- The steps behind the own table. -/
def putSteps (D : Dk) (X : Pn) (t u K A : Int) : Pn × Int := step (if (tabGet D X t (u % 16)).1.1 = 1 then cntAdd D X (tabGet D X t (u % 16)).1.2 (-1) else (X, 0)) fun Y => tabSet D Y t (u % 16) K A
def ptPoint (D : Dk) (L : Pn) (g h u K A : Int) : Pn × Int :=
 if (ptOwn D L g h u).2.2 ≠ 0 then (L, (ptOwn D L g h u).2.2)
 else if (tabGet D (ptOwn D L g h u).1 (ptOwn D L g h u).2.1 (u % 16)).2 ≠ 0 then (L, (tabGet D (ptOwn D L g h u).1 (ptOwn D L g h u).2.1 (u % 16)).2)
 else if (putSteps D (ptOwn D L g h u).1 (ptOwn D L g h u).2.1 u K A).2 ≠ 0 then (L, (putSteps D (ptOwn D L g h u).1 (ptOwn D L g h u).2.1 u K A).2)
 else ((putSteps D (ptOwn D L g h u).1 (ptOwn D L g h u).2.1 u K A).1, 0)
variable {D : Dk} {L X : Pn}
theorem cntAdd_fit (hD : D.fit = true) (hL : L.Fit) (k b : Int) : (cntAdd D L k b).1.Fit := by
 by_cases h : (cntAdd D L k b).2 = 0
 · exact (cntAdd_ok hD hL (X := (cntAdd D L k b).1) (Prod.ext rfl h)).2.2.2.2.2.1
 · rw [cntAdd_not h]; exact hL
theorem tabSet_fit (hD : D.fit = true) (hL : L.Fit) (t i K A : Int) : (tabSet D L t i K A).1.Fit := by
 by_cases h : (tabSet D L t i K A).2 = 0
 · exact (tabSet_ok hD hL (X := (tabSet D L t i K A).1) (Prod.ext rfl h)).1
 · rw [tabSet_not h]; exact hL
theorem tabBlank_fit (hL : L.Fit) (t : Int) : (tabBlank L t).1.Fit := by
 by_cases h : (tabBlank L t).2 = 0
 · exact (tabBlank_ok (D := ⟨[], [], 0, false, []⟩) hL (X := (tabBlank L t).1) (Prod.ext rfl h)).1
 · rw [tabBlank_not h]; exact hL
theorem tabCopy_fit (hL : L.Fit) (f t : Int) : (tabCopy D L f t).1.Fit := by
 by_cases h : (tabCopy D L f t).2 = 0
 · exact (tabCopy_ok hL (X := (tabCopy D L f t).1) (Prod.ext rfl h)).1
 · rw [tabCopy_not h]; exact hL
theorem alTake_fit (hD : D.fit = true) (hL : L.Fit) (h : Int) : (alTake D L h).1.Fit := by
 rcases alTake_cases D L h with ⟨k, X, _, h2, _, _, h5⟩ | ⟨_, h2, _⟩
 · rw [h2]
   have := cntAdd_fit hD hL (k : Int) 1
   rw [h5] at this
   exact this
 · rw [h2]; exact hL
theorem alTake_small {h : Int} (hh : h ≤ 256) : 0 ≤ (alTake D L h).2.1 ∧ (alTake D L h).2.1 < 256 := by
 rcases alTake_cases D L h with ⟨k, X, h1, h2, _, _, _⟩ | ⟨_, _, h2⟩
 · rw [h2]
   show (0 : Int) ≤ (k : Int) ∧ (k : Int) < 256
   omega
 · rw [h2]; decide
theorem freshSteps_fit (hD : D.fit = true) (hL : L.Fit) (h l1 i f : Int) : (freshSteps D L h l1 i f).1.Fit :=
 step_fit (step_fit (step_fit (alTake_fit hD hL h) fun X hX => by split; exact tabBlank_fit hX _; exact tabCopy_fit hX _ _) fun X hX => by split; exact hX; exact cntAdd_fit hD hX _ _) fun X hX => tabSet_fit hD hX _ _ _ _
theorem ptFresh_fit (hD : D.fit = true) (hL : L.Fit) (h l1 i f : Int) : (ptFresh D L h l1 i f).1.Fit := by
 unfold ptFresh
 split
 · exact hL
 · exact freshSteps_fit hD hL h l1 i f
theorem ptOwn_fit (hD : D.fit = true) (hL : L.Fit) (g h u : Int) : (ptOwn D L g h u).1.Fit := by
 unfold ptOwn
 split; exact hL
 split; exact hL
 split; exact hL
 split; exact hL
 split; exact ptFresh_fit hD hL ..
 split; exact hL
 split; exact hL
 exact ptFresh_fit hD hL ..
theorem putSteps_fit (hD : D.fit = true) (hX : X.Fit) (t u K A : Int) : (putSteps D X t u K A).1.Fit :=
 step_fit (by split; exact cntAdd_fit hD hX _ _; exact hX) fun Y hY => tabSet_fit hD hY _ _ _ _
theorem ptPoint_fit (hD : D.fit = true) (hL : L.Fit) (g h u K A : Int) : (ptPoint D L g h u K A).1.Fit := by
 unfold ptPoint
 split; exact hL
 split; exact hL
 split; exact hL
 exact putSteps_fit hD (ptOwn_fit hD hL g h u) _ _ _ _
end Pn
end Go.Proofs.YtlapjkbefkmohaaGreat
namespace Go.Proofs.YtlapjkbefkmohaaGreat
namespace Pn
theorem step_const (s : Pn × Int) (f : Pn → Pn × Int) : step s f = step s fun _ => f s.1 := by unfold step; rfl
theorem freshSteps_new (D : Dk) (X : Pn) (h l i : Int) : freshSteps D X h l i (-1) = step (step ((alTake D X h).1, (alTake D X h).2.2) fun _ => tabBlank (alTake D X h).1 (alTake D X h).2.1) fun Y => tabSet D Y l i 1 (alTake D X h).2.1 := by
 unfold freshSteps
 have e1 : (fun X' : Pn => if (-1 : Int) < 0 then tabBlank X' (alTake D X h).2.1 else tabCopy D X' (-1) (alTake D X h).2.1) = fun X' => tabBlank X' (alTake D X h).2.1 := by funext x; rw [if_pos (by decide)]
 have e2 : (fun X' : Pn => if (-1 : Int) < 0 then (X', (0 : Int)) else cntAdd D X' (-1) (-1)) = fun X' => (X', 0) := by funext x; rw [if_pos (by decide)]
 rw [e1, e2, ← step_const ((alTake D X h).1, (alTake D X h).2.2) fun X' => tabBlank X' (alTake D X h).2.1]
 generalize step ((alTake D X h).1, (alTake D X h).2.2) (fun X' => tabBlank X' (alTake D X h).2.1) = T
 have e3 : step T (fun X' => (X', 0)) = T := by
  by_cases h0 : T.2 = 0
  · rw [step_zero h0]; exact Prod.ext rfl h0.symm
  · rw [step_err h0]
 rw [e3]
theorem freshSteps_old (D : Dk) (X : Pn) (h l i f : Int) (hf : 0 ≤ f) : freshSteps D X h l i f = step (step (step ((alTake D X h).1, (alTake D X h).2.2) fun _ => tabCopy D (alTake D X h).1 f (alTake D X h).2.1) fun Y => cntAdd D Y f (-1)) fun Y => tabSet D Y l i 1 (alTake D X h).2.1 := by
 unfold freshSteps
 have e1 : (fun X' : Pn => if f < 0 then tabBlank X' (alTake D X h).2.1 else tabCopy D X' f (alTake D X h).2.1) = fun X' => tabCopy D X' f (alTake D X h).2.1 := by funext x; rw [if_neg (by omega)]
 have e2 : (fun X' : Pn => if f < 0 then (X', (0 : Int)) else cntAdd D X' f (-1)) = fun X' => cntAdd D X' f (-1) := by funext x; rw [if_neg (by omega)]
 rw [e1, e2, ← step_const ((alTake D X h).1, (alTake D X h).2.2) fun X' => tabCopy D X' f (alTake D X h).2.1]
theorem ptOwn_out {D : Dk} {L : Pn} {g h u : Int} (hu : u < 0 ∨ g ≤ u) : ptOwn D L g h u = (L, 0, 10) := by rw [ptOwn, if_pos hu]
theorem freshSteps_err {D : Dk} {X : Pn} {h l i f : Int} (he : (alTake D X h).2.2 ≠ 0) : freshSteps D X h l i f = ((alTake D X h).1, (alTake D X h).2.2) := by
 unfold freshSteps
 rw [step_err (s := ((alTake D X h).1, (alTake D X h).2.2)) he, step_err (s := ((alTake D X h).1, (alTake D X h).2.2)) he, step_err (s := ((alTake D X h).1, (alTake D X h).2.2)) he]
theorem ptFresh_take {D : Dk} {X : Pn} {h l i f : Int} (he : (alTake D X h).2.2 ≠ 0) : ptFresh D X h l i f = (X, 0, (alTake D X h).2.2) := by
 unfold ptFresh
 rw [freshSteps_err he, if_pos he]
theorem ptPoint_own {D : Dk} {L : Pn} {g h u K A : Int} (he : (ptOwn D L g h u).2.2 ≠ 0) : ptPoint D L g h u K A = (L, (ptOwn D L g h u).2.2) := by rw [ptPoint, if_pos he]
theorem ptPoint_in {D : Dk} {L : Pn} {g h u K A : Int} (he : (ptOwn D L g h u).2.2 = 0) : ptPoint D L g h u K A = if (tabGet D (ptOwn D L g h u).1 (ptOwn D L g h u).2.1 (u % 16)).2 ≠ 0 then (L, (tabGet D (ptOwn D L g h u).1 (ptOwn D L g h u).2.1 (u % 16)).2)
 else if (putSteps D (ptOwn D L g h u).1 (ptOwn D L g h u).2.1 u K A).2 ≠ 0 then (L, (putSteps D (ptOwn D L g h u).1 (ptOwn D L g h u).2.1 u K A).2)
 else ((putSteps D (ptOwn D L g h u).1 (ptOwn D L g h u).2.1 u K A).1, 0) := by rw [ptPoint, if_neg (by rw [he]; simp)]
end Pn
end Go.Proofs.YtlapjkbefkmohaaGreat
