/- Package root: an image's root, the plain words and laws. Nothing of the program stands here. Package point: where the guest's clusters are, the plain words and laws. Nothing of the program stands here. Package point: more plain laws. Nothing of the program stands here. -/
import Derived.Test.YtjhnaeomaigimaaGreatDoorPlain1
import Derived.Test.YtjhnaeomaigimaaGreatDoorTableLaw
namespace Go.Proofs.YtjhnaeomaigimaaGreatDoor
def magicR : List UInt8 := [67, 79, 70, 82]
def rtBody (l n : Nat) : List UInt8 := magicR ++ be 2 l ++ be 4 n
def rtHead (l n : Nat) : List UInt8 := pad64 (rtBody l n ++ be 4 (crcOf (rtBody l n)))
theorem rtBody_length (l n : Nat) : (rtBody l n).length = 10 := by simp [rtBody, magicR, be_length]
theorem rtHead_length (l n : Nat) : (rtHead l n).length = 64 := pad64_length (by simp [rtBody_length, be_length])
theorem rtHead_cat (l n : Nat) : ∃ r, rtHead l n = magicR ++ (be 2 l ++ (be 4 n ++ (be 4 (crcOf (rtBody l n)) ++ r))) := ⟨List.replicate 50 0, by
  unfold rtHead pad64
  rw [List.length_append, rtBody_length, be_length]
  simp only [rtBody, List.append_assoc]⟩
/-- A root, as it stands in a sector. -/
def rtOf (s : List UInt8) : (Nat × Nat) × Int :=
  if s.take 4 ≠ magicR then ((0, 0), 14) else if be 4 (crcOf (s.take 10)) ≠ (s.drop 10).take 4 then ((0, 0), 15)
  else if 256 ≤ un ((s.drop 4).take 2) ∨ rtHead (un ((s.drop 4).take 2)) (un ((s.drop 6).take 4)) ≠ s then ((0, 0), 14) else ((un ((s.drop 4).take 2), un ((s.drop 6).take 4)), 0)
def Pn.rtGet (D : Dk) (L : Pn) : (Nat × Nat) × Int := if (Pn.look D L 1).2 ≠ 0 then ((0, 0), (Pn.look D L 1).2) else rtOf (Pn.look D L 1).1
theorem rtOf_ok {s : List UInt8} {l n : Nat} (h : rtOf s = ((l, n), 0)) : l < 256 ∧ n < 4294967296 ∧ s = rtHead l n := by
  have hb := un_lt ((s.drop 6).take 4)
  unfold rtOf at h
  split at h
  · exact absurd (Prod.mk.inj h).2 (by decide)
  split at h
  · exact absurd (Prod.mk.inj h).2 (by decide)
  split at h
  · exact absurd (Prod.mk.inj h).2 (by decide)
  rename_i h3
  obtain ⟨h1, _⟩ := Prod.mk.inj h
  obtain ⟨rfl, rfl⟩ := Prod.mk.inj h1
  refine ⟨by omega, Nat.lt_of_lt_of_le hb ?_, ?_⟩
  · have : 256 ^ ((s.drop 6).take 4).length ≤ 256 ^ 4 := Nat.pow_le_pow_right (by decide) (by simp; omega)
    exact this
  · exact (Classical.byContradiction fun hne => h3 (.inr fun e => hne e.symm))
theorem rtOf_head {l n : Nat} (h1 : l < 256) (h2 : n < 4294967296) : rtOf (rtHead l n) = ((l, n), 0) := by
  obtain ⟨r, hr⟩ := rtHead_cat l n
  have e4 : (rtHead l n).take 4 = magicR := by rw [hr, List.take_append_of_le_length (by decide)]; rfl
  have d4 : (rtHead l n).drop 4 = be 2 l ++ (be 4 n ++ (be 4 (crcOf (rtBody l n)) ++ r)) := by rw [hr]; rfl
  have b2 := be_length 2 l
  have b4 := be_length 4 n
  have bc := be_length 4 (crcOf (rtBody l n))
  have d6 : (rtHead l n).drop 6 = be 4 n ++ (be 4 (crcOf (rtBody l n)) ++ r) := by
    rw [show 6 = 4 + 2 from rfl, ← List.drop_drop, d4, List.drop_append_of_le_length (by omega), List.drop_of_length_le (by omega), List.nil_append]
  have d10 : (rtHead l n).drop 10 = be 4 (crcOf (rtBody l n)) ++ r := by
    rw [show 10 = 6 + 4 from rfl, ← List.drop_drop, d6, List.drop_append_of_le_length (by omega), List.drop_of_length_le (by omega), List.nil_append]
  have t10 : (rtHead l n).take 10 = rtBody l n := by
    rw [hr, ← List.append_assoc, ← List.append_assoc, List.take_append_of_le_length (by rw [show magicR ++ be 2 l ++ be 4 n = rtBody l n from rfl, rtBody_length]; exact Nat.le_refl _), List.take_of_length_le (by rw [show magicR ++ be 2 l ++ be 4 n = rtBody l n from rfl, rtBody_length]; exact Nat.le_refl _)]
    rfl
  have u2 : un ((rtHead l n).drop 4 |>.take 2) = l := by
    rw [d4, List.take_append_of_le_length (by omega), List.take_of_length_le (by omega), un_bes, Nat.mod_eq_of_lt (by omega)]
  have u4 : un ((rtHead l n).drop 6 |>.take 4) = n := by
    rw [d6, List.take_append_of_le_length (by omega), List.take_of_length_le (by omega), un_bes, Nat.mod_eq_of_lt (by omega)]
  unfold rtOf
  rw [if_neg (by rw [e4]; simp), if_neg (by rw [t10, d10, List.take_append_of_le_length (by omega), List.take_of_length_le (by omega)]; simp), u2, u4, if_neg (by rintro (h | h); omega; exact h rfl)]
theorem Pn.rtGet_lt {D : Dk} {L : Pn} : (rtGet D L).1.1 < 256 ∧ (rtGet D L).1.2 < 4294967296 := by
  unfold rtGet
  split
  · exact ⟨show (0 : Nat) < 256 by decide, show (0 : Nat) < 4294967296 by decide⟩
  · by_cases h : (rtOf (look D L 1).1).2 = 0
    · obtain ⟨⟨l, n⟩, e⟩ : ∃ x, rtOf (look D L 1).1 = (x, 0) := ⟨_, Prod.ext rfl h⟩
      rw [e]
      exact ⟨(rtOf_ok e).1, (rtOf_ok e).2.1⟩
    · have : (rtOf (look D L 1).1).1 = (0, 0) := by
        revert h
        unfold rtOf
        split
        · intro _; rfl
        split
        · intro _; rfl
        split
        · intro _; rfl
        · intro h; exact absurd rfl h
      rw [this]
      exact ⟨by decide, by decide⟩
theorem Pn.rtGet_bad {D : Dk} {L : Pn} (h : (rtGet D L).2 ≠ 0) : (rtGet D L).1 = (0, 0) := by
  revert h
  unfold rtGet rtOf
  split
  · intro _; rfl
  split
  · intro _; rfl
  split
  · intro _; rfl
  split
  · intro _; rfl
  · intro h; exact absurd rfl h
end Go.Proofs.YtjhnaeomaigimaaGreatDoor
namespace Go.Proofs.YtjhnaeomaigimaaGreatDoor
namespace Pn
/-- A step on a plan, if there was no error yet. -/
def step (s : Pn × Int) (f : Pn → Pn × Int) : Pn × Int := if s.2 ≠ 0 then s else f s.1
theorem step_zero {s : Pn × Int} {f : Pn → Pn × Int} (h : s.2 = 0) : step s f = f s.1 := by unfold step; rw [if_neg (by rw [h]; simp)]
theorem step_err {s : Pn × Int} {f : Pn → Pn × Int} (h : s.2 ≠ 0) : step s f = s := by unfold step; rw [if_pos h]
theorem step_fit {s : Pn × Int} {f : Pn → Pn × Int} (h : s.1.Fit) (hf : ∀ X : Pn, X.Fit → (f X).1.Fit) : (step s f).1.Fit := by
  unfold step
  split
  · exact h
  · exact hf _ h
/-- A table that is taken, filled, and set. -/
def freshSteps (D : Dk) (L : Pn) (h l1 i f : Int) : Pn × Int :=
  step (step (step ((alTake D L h).1, (alTake D L h).2.2) fun X => if f < 0 then tabBlank X (alTake D L h).2.1 else tabCopy D X f (alTake D L h).2.1) fun X => if f < 0 then (X, 0) else cntAdd D X f (-1)) fun X => tabSet D X l1 i 1 (alTake D L h).2.1
def ptFresh (D : Dk) (L : Pn) (h l1 i f : Int) : Pn × Int × Int := if (freshSteps D L h l1 i f).2 ≠ 0 then (L, 0, (freshSteps D L h l1 i f).2) else ((freshSteps D L h l1 i f).1, (alTake D L h).2.1, 0)
/-- The guest's own second table. -/
def ptOwn (D : Dk) (L : Pn) (g h u : Int) : Pn × Int × Int :=
  if u < 0 ∨ g ≤ u then (L, 0, 10) else if (rtGet D L).2 ≠ 0 then (L, 0, (rtGet D L).2)
  else if (tabGet D L (rtGet D L).1.1 (u / 16)).2 ≠ 0 then (L, 0, (tabGet D L (rtGet D L).1.1 (u / 16)).2)
  else if (tabGet D L (rtGet D L).1.1 (u / 16)).1.1 = 2 then (L, 0, 14)
  else if (tabGet D L (rtGet D L).1.1 (u / 16)).1.1 = 0 then ptFresh D L h (rtGet D L).1.1 (u / 16) (-1)
  else if (cntGet D L (tabGet D L (rtGet D L).1.1 (u / 16)).1.2).2 ≠ 0 then (L, 0, (cntGet D L (tabGet D L (rtGet D L).1.1 (u / 16)).1.2).2)
  else if (cntGet D L (tabGet D L (rtGet D L).1.1 (u / 16)).1.2).1 ≤ 1 then (L, (tabGet D L (rtGet D L).1.1 (u / 16)).1.2, 0)
  else ptFresh D L h (rtGet D L).1.1 (u / 16) (tabGet D L (rtGet D L).1.1 (u / 16)).1.2
/-- The steps behind the own table. -/
def putSteps (D : Dk) (X : Pn) (t u K A : Int) : Pn × Int := step (if (tabGet D X t (u % 16)).1.1 = 1 then cntAdd D X (tabGet D X t (u % 16)).1.2 (-1) else (X, 0)) fun Y => tabSet D Y t (u % 16) K A
def ptPoint (D : Dk) (L : Pn) (g h u K A : Int) : Pn × Int :=
  if (ptOwn D L g h u).2.2 ≠ 0 then (L, (ptOwn D L g h u).2.2)
  else if (tabGet D (ptOwn D L g h u).1 (ptOwn D L g h u).2.1 (u % 16)).2 ≠ 0 then (L, (tabGet D (ptOwn D L g h u).1 (ptOwn D L g h u).2.1 (u % 16)).2)
  else if (putSteps D (ptOwn D L g h u).1 (ptOwn D L g h u).2.1 u K A).2 ≠ 0 then (L, (putSteps D (ptOwn D L g h u).1 (ptOwn D L g h u).2.1 u K A).2)
  else ((putSteps D (ptOwn D L g h u).1 (ptOwn D L g h u).2.1 u K A).1, 0)
/-- The clusters that the first n entries of a second table reach, up to the first error. -/
def reachIn (D : Dk) (L : Pn) (t : Int) : Nat → List Int × Int
  | 0 => ([], 0)
  | n + 1 => if (reachIn D L t n).2 ≠ 0 then reachIn D L t n else if (tabGet D L t n).2 ≠ 0 then ((reachIn D L t n).1, (tabGet D L t n).2)
    else if (tabGet D L t n).1.1 = 1 then ((reachIn D L t n).1 ++ [(tabGet D L t n).1.2], 0) else ((reachIn D L t n).1, 0)
/-- What one entry of a first table reaches. -/
def reachAt (D : Dk) (L : Pn) (l1 : Int) (i : Nat) : List Int × Int :=
  if (tabGet D L l1 i).2 ≠ 0 then ([], (tabGet D L l1 i).2) else if (tabGet D L l1 i).1.1 = 2 then ([], 14) else if (tabGet D L l1 i).1.1 = 0 then ([], 0)
  else ((tabGet D L l1 i).1.2 :: (reachIn D L (tabGet D L l1 i).1.2 16).1, (reachIn D L (tabGet D L l1 i).1.2 16).2)
def reachN (D : Dk) (L : Pn) (l1 : Int) : Nat → List Int × Int
  | 0 => ([], 0)
  | n + 1 => if (reachN D L l1 n).2 ≠ 0 then reachN D L l1 n else ((reachN D L l1 n).1 ++ (reachAt D L l1 n).1, (reachAt D L l1 n).2)
def ptReach (D : Dk) (L : Pn) (l1 : Int) : List Int × Int := if (reachN D L l1 4).2 ≠ 0 then ([], (reachN D L l1 4).2) else ((reachN D L l1 4).1, 0)
def addAll (D : Dk) (b : Int) (l : List Int) (s : Pn × Int) : Pn × Int := l.foldl (fun s k => step s fun X => cntAdd D X k b) s
def ptShare (D : Dk) (L : Pn) (l1 b : Int) : Pn × Int :=
  if (ptReach D L l1).2 ≠ 0 then (L, (ptReach D L l1).2) else if (addAll D b (ptReach D L l1).1 (L, 0)).2 ≠ 0 then (L, (addAll D b (ptReach D L l1).1 (L, 0)).2) else ((addAll D b (ptReach D L l1).1 (L, 0)).1, 0)

variable {D : Dk} {L X : Pn}
theorem cntAdd_fit (hD : D.fit = true) (hL : L.Fit) (k b : Int) : (cntAdd D L k b).1.Fit := by
  by_cases h : (cntAdd D L k b).2 = 0
  · exact (cntAdd_ok hD hL (X := (cntAdd D L k b).1) (Prod.ext rfl h)).2.2.2.2.2.1
  · rw [cntAdd_not h]; exact hL
theorem tabSet_fit (hD : D.fit = true) (hL : L.Fit) (t i K A : Int) : (tabSet D L t i K A).1.Fit := by
  by_cases h : (tabSet D L t i K A).2 = 0
  · exact (tabSet_ok hD hL (X := (tabSet D L t i K A).1) (Prod.ext rfl h)).1
  · rw [tabSet_not h]; exact hL
theorem tabBlank_fit (hL : L.Fit) (t : Int) : (tabBlank L t).1.Fit := by
  by_cases h : (tabBlank L t).2 = 0
  · exact (tabBlank_ok (D := ⟨[], [], 0, false, []⟩) hL (X := (tabBlank L t).1) (Prod.ext rfl h)).1
  · rw [tabBlank_not h]; exact hL
theorem tabCopy_fit (hL : L.Fit) (f t : Int) : (tabCopy D L f t).1.Fit := by
  by_cases h : (tabCopy D L f t).2 = 0
  · exact (tabCopy_ok hL (X := (tabCopy D L f t).1) (Prod.ext rfl h)).1
  · rw [tabCopy_not h]; exact hL
theorem alTake_fit (hD : D.fit = true) (hL : L.Fit) (h : Int) : (alTake D L h).1.Fit := by
  rcases alTake_cases D L h with ⟨k, X, _, h2, _, _, h5⟩ | ⟨_, h2, _⟩
  · rw [h2]
    have := cntAdd_fit hD hL (k : Int) 1
    rw [h5] at this
    exact this
  · rw [h2]; exact hL
theorem alTake_small {h : Int} (hh : h ≤ 256) : 0 ≤ (alTake D L h).2.1 ∧ (alTake D L h).2.1 < 256 := by
  rcases alTake_cases D L h with ⟨k, X, h1, h2, _, _, _⟩ | ⟨_, _, h2⟩
  · rw [h2]
    show (0 : Int) ≤ (k : Int) ∧ (k : Int) < 256
    omega
  · rw [h2]; decide
theorem reachIn_small (t : Int) : ∀ n, ∀ x ∈ (reachIn D L t n).1, 0 ≤ x ∧ x < 256 := by
  intro n
  induction n with
  | zero => intro x hx; cases hx
  | succ n ih =>
    intro x hx
    unfold reachIn at hx
    have hs := tabGet_small D L t n
    split at hx
    · exact ih x hx
    split at hx
    · exact ih x hx
    split at hx
    · rcases List.mem_append.1 hx with h | h
      · exact ih x h
      · rw [List.mem_singleton.1 h]; exact ⟨hs.2.2.1, hs.2.2.2⟩
    · exact ih x hx
theorem reachIn_len (t : Int) : ∀ n, (reachIn D L t n).1.length ≤ n := by
  intro n
  induction n with
  | zero => exact Nat.le_refl _
  | succ n ih =>
    unfold reachIn
    split
    · omega
    split
    · show (reachIn D L t n).1.length ≤ n + 1
      omega
    split
    · show ((reachIn D L t n).1 ++ [_]).length ≤ n + 1
      rw [List.length_append, List.length_singleton]
      omega
    · show (reachIn D L t n).1.length ≤ n + 1
      omega
theorem reachAt_small (l1 : Int) (i : Nat) : (∀ x ∈ (reachAt D L l1 i).1, 0 ≤ x ∧ x < 256) ∧ (reachAt D L l1 i).1.length ≤ 17 := by
  have hs := tabGet_small D L l1 i
  unfold reachAt
  split
  · exact ⟨fun x (hx : x ∈ ([] : List Int)) => (nomatch hx), Nat.zero_le _⟩
  split
  · exact ⟨fun x (hx : x ∈ ([] : List Int)) => (nomatch hx), Nat.zero_le _⟩
  split
  · exact ⟨fun x (hx : x ∈ ([] : List Int)) => (nomatch hx), Nat.zero_le _⟩
  · refine ⟨fun x hx => ?_, ?_⟩
    · rcases List.mem_cons.1 hx with rfl | hx
      · exact ⟨hs.2.2.1, hs.2.2.2⟩
      · exact reachIn_small _ _ x hx
    · have := reachIn_len (D := D) (L := L) (tabGet D L l1 i).1.2 16
      show (_ :: _).length ≤ 17
      rw [List.length_cons]; omega
theorem reachN_small (l1 : Int) : ∀ n, (∀ x ∈ (reachN D L l1 n).1, 0 ≤ x ∧ x < 256) ∧ (reachN D L l1 n).1.length ≤ 17 * n := by
  intro n
  induction n with
  | zero => exact ⟨fun x (hx : x ∈ ([] : List Int)) => (nomatch hx), Nat.zero_le _⟩
  | succ n ih =>
    unfold reachN
    split
    · exact ⟨ih.1, by have := ih.2; omega⟩
    · have h := reachAt_small (D := D) (L := L) l1 n
      refine ⟨fun x hx => ?_, ?_⟩
      · rcases List.mem_append.1 hx with hx | hx
        · exact ih.1 x hx
        · exact h.1 x hx
      · show ((reachN D L l1 n).1 ++ (reachAt D L l1 n).1).length ≤ 17 * (n + 1)
        rw [List.length_append]
        have := ih.2; have := h.2; omega
theorem ptReach_small (l1 : Int) : (∀ x ∈ (ptReach D L l1).1, 0 ≤ x ∧ x < 256) ∧ (ptReach D L l1).1.length ≤ 68 := by
  have h := reachN_small (D := D) (L := L) l1 4
  unfold ptReach
  split
  · exact ⟨fun x (hx : x ∈ ([] : List Int)) => (nomatch hx), Nat.zero_le _⟩
  · exact h
theorem addAll_nil (b : Int) (s : Pn × Int) : addAll D b [] s = s := rfl
theorem addAll_snoc (b : Int) (l : List Int) (k : Int) (s : Pn × Int) : addAll D b (l ++ [k]) s = step (addAll D b l s) fun X => cntAdd D X k b := by unfold addAll; rw [List.foldl_append]; rfl
theorem addAll_fit (hD : D.fit = true) (b : Int) : ∀ (l : List Int) {s : Pn × Int}, s.1.Fit → (addAll D b l s).1.Fit := by
  intro l
  induction l with
  | nil => intro s h; exact h
  | cons k l ih => intro s h; exact ih (s := step s fun X => cntAdd D X k b) (step_fit h fun X hX => cntAdd_fit hD hX k b)
theorem freshSteps_fit (hD : D.fit = true) (hL : L.Fit) (h l1 i f : Int) : (freshSteps D L h l1 i f).1.Fit :=
  step_fit (step_fit (step_fit (alTake_fit hD hL h) fun X hX => by split; exact tabBlank_fit hX _; exact tabCopy_fit hX _ _) fun X hX => by split; exact hX; exact cntAdd_fit hD hX _ _) fun X hX => tabSet_fit hD hX _ _ _ _
theorem ptFresh_fit (hD : D.fit = true) (hL : L.Fit) (h l1 i f : Int) : (ptFresh D L h l1 i f).1.Fit := by
  unfold ptFresh
  split
  · exact hL
  · exact freshSteps_fit hD hL h l1 i f
theorem ptOwn_fit (hD : D.fit = true) (hL : L.Fit) (g h u : Int) : (ptOwn D L g h u).1.Fit := by
  unfold ptOwn
  split; exact hL
  split; exact hL
  split; exact hL
  split; exact hL
  split; exact ptFresh_fit hD hL ..
  split; exact hL
  split; exact hL
  exact ptFresh_fit hD hL ..
theorem putSteps_fit (hD : D.fit = true) (hX : X.Fit) (t u K A : Int) : (putSteps D X t u K A).1.Fit :=
  step_fit (by split; exact cntAdd_fit hD hX _ _; exact hX) fun Y hY => tabSet_fit hD hY _ _ _ _
theorem ptPoint_fit (hD : D.fit = true) (hL : L.Fit) (g h u K A : Int) : (ptPoint D L g h u K A).1.Fit := by
  unfold ptPoint
  split; exact hL
  split; exact hL
  split; exact hL
  exact putSteps_fit hD (ptOwn_fit hD hL g h u) _ _ _ _
theorem ptPoint_not {g h u K A : Int} (hn : (ptPoint D L g h u K A).2 ≠ 0) : (ptPoint D L g h u K A).1 = L := by
  unfold ptPoint at hn ⊢
  split; rfl
  split; rfl
  split; rfl
  rename_i h1 h2 h3
  rw [if_neg h1, if_neg h2, if_neg h3] at hn
  exact absurd rfl hn
theorem ptShare_fit (hD : D.fit = true) (hL : L.Fit) (l1 b : Int) : (ptShare D L l1 b).1.Fit := by
  unfold ptShare
  split; exact hL
  split; exact hL
  exact addAll_fit hD b _ hL
theorem ptShare_not {l1 b : Int} (hn : (ptShare D L l1 b).2 ≠ 0) : (ptShare D L l1 b).1 = L := by
  unfold ptShare at hn ⊢
  split; rfl
  split; rfl
  rename_i h1 h2
  rw [if_neg h1, if_neg h2] at hn
  exact absurd rfl hn
end Pn
end Go.Proofs.YtjhnaeomaigimaaGreatDoor
namespace Go.Proofs.YtjhnaeomaigimaaGreatDoor
namespace Pn
theorem step_const (s : Pn × Int) (f : Pn → Pn × Int) : step s f = step s fun _ => f s.1 := by unfold step; rfl
theorem cntGet_bad {D : Dk} {L : Pn} {k : Int} (h : (cntGet D L k).2 ≠ 0) : (cntGet D L k).1 = 0 := by
  unfold cntGet at h ⊢
  split
  · rfl
  split
  · rfl
  · rename_i h1 h2; rw [if_neg h1, if_neg h2] at h; exact absurd rfl h
theorem freshSteps_new (D : Dk) (X : Pn) (h l i : Int) : freshSteps D X h l i (-1) = step (step ((alTake D X h).1, (alTake D X h).2.2) fun _ => tabBlank (alTake D X h).1 (alTake D X h).2.1) fun Y => tabSet D Y l i 1 (alTake D X h).2.1 := by
  unfold freshSteps
  have e1 : (fun X' : Pn => if (-1 : Int) < 0 then tabBlank X' (alTake D X h).2.1 else tabCopy D X' (-1) (alTake D X h).2.1) = fun X' => tabBlank X' (alTake D X h).2.1 := by funext x; rw [if_pos (by decide)]
  have e2 : (fun X' : Pn => if (-1 : Int) < 0 then (X', (0 : Int)) else cntAdd D X' (-1) (-1)) = fun X' => (X', 0) := by funext x; rw [if_pos (by decide)]
  rw [e1, e2, ← step_const ((alTake D X h).1, (alTake D X h).2.2) fun X' => tabBlank X' (alTake D X h).2.1]
  generalize step ((alTake D X h).1, (alTake D X h).2.2) (fun X' => tabBlank X' (alTake D X h).2.1) = T
  have e3 : step T (fun X' => (X', 0)) = T := by
    by_cases h0 : T.2 = 0
    · rw [step_zero h0]; exact Prod.ext rfl h0.symm
    · rw [step_err h0]
  rw [e3]
theorem freshSteps_old (D : Dk) (X : Pn) (h l i f : Int) (hf : 0 ≤ f) : freshSteps D X h l i f = step (step (step ((alTake D X h).1, (alTake D X h).2.2) fun _ => tabCopy D (alTake D X h).1 f (alTake D X h).2.1) fun Y => cntAdd D Y f (-1)) fun Y => tabSet D Y l i 1 (alTake D X h).2.1 := by
  unfold freshSteps
  have e1 : (fun X' : Pn => if f < 0 then tabBlank X' (alTake D X h).2.1 else tabCopy D X' f (alTake D X h).2.1) = fun X' => tabCopy D X' f (alTake D X h).2.1 := by funext x; rw [if_neg (by omega)]
  have e2 : (fun X' : Pn => if f < 0 then (X', (0 : Int)) else cntAdd D X' f (-1)) = fun X' => cntAdd D X' f (-1) := by funext x; rw [if_neg (by omega)]
  rw [e1, e2, ← step_const ((alTake D X h).1, (alTake D X h).2.2) fun X' => tabCopy D X' f (alTake D X h).2.1]
theorem ptFresh_err (D : Dk) (X : Pn) (h l i f : Int) : (freshSteps D X h l i f).2 = (ptFresh D X h l i f).2.2 ∧ ((freshSteps D X h l i f).2 = 0 → (freshSteps D X h l i f).1 = (ptFresh D X h l i f).1 ∧ (alTake D X h).2.1 = (ptFresh D X h l i f).2.1) := by
  unfold ptFresh
  split
  · rename_i h0; exact ⟨rfl, fun h1 => absurd h1 h0⟩
  · rename_i h0; exact ⟨Classical.not_not.1 h0, fun _ => ⟨rfl, rfl⟩⟩
theorem ptFresh_not {D : Dk} {L : Pn} {h l i f : Int} (hn : (ptFresh D L h l i f).2.2 ≠ 0) : (ptFresh D L h l i f).1 = L ∧ (ptFresh D L h l i f).2.1 = 0 := by
  unfold ptFresh at hn ⊢
  split
  · exact ⟨rfl, rfl⟩
  · rename_i h1; rw [if_neg h1] at hn; exact absurd rfl hn
theorem ptOwn_not {D : Dk} {L : Pn} {g h u : Int} (hn : (ptOwn D L g h u).2.2 ≠ 0) : (ptOwn D L g h u).1 = L ∧ (ptOwn D L g h u).2.1 = 0 := by
  unfold ptOwn at hn ⊢
  split; exact ⟨rfl, rfl⟩
  split; exact ⟨rfl, rfl⟩
  split; exact ⟨rfl, rfl⟩
  split; exact ⟨rfl, rfl⟩
  rename_i h1 h2 h3 h4
  rw [if_neg h1, if_neg h2, if_neg h3, if_neg h4] at hn
  split
  · rename_i h5; rw [if_pos h5] at hn; exact ptFresh_not hn
  rename_i h5
  rw [if_neg h5] at hn
  split; exact ⟨rfl, rfl⟩
  rename_i h6
  rw [if_neg h6] at hn
  split
  · rename_i h7; rw [if_pos h7] at hn; exact absurd rfl hn
  · rename_i h7; rw [if_neg h7] at hn; exact ptFresh_not hn
theorem ptOwn_out {D : Dk} {L : Pn} {g h u : Int} (hu : u < 0 ∨ g ≤ u) : ptOwn D L g h u = (L, 0, 10) := by rw [ptOwn, if_pos hu]
theorem freshSteps_err {D : Dk} {X : Pn} {h l i f : Int} (he : (alTake D X h).2.2 ≠ 0) : freshSteps D X h l i f = ((alTake D X h).1, (alTake D X h).2.2) := by
  unfold freshSteps
  rw [step_err (s := ((alTake D X h).1, (alTake D X h).2.2)) he, step_err (s := ((alTake D X h).1, (alTake D X h).2.2)) he, step_err (s := ((alTake D X h).1, (alTake D X h).2.2)) he]
theorem ptFresh_take {D : Dk} {X : Pn} {h l i f : Int} (he : (alTake D X h).2.2 ≠ 0) : ptFresh D X h l i f = (X, 0, (alTake D X h).2.2) := by
  unfold ptFresh
  rw [freshSteps_err he, if_pos he]
theorem ptPoint_own {D : Dk} {L : Pn} {g h u K A : Int} (he : (ptOwn D L g h u).2.2 ≠ 0) : ptPoint D L g h u K A = (L, (ptOwn D L g h u).2.2) := by rw [ptPoint, if_pos he]
theorem ptPoint_in {D : Dk} {L : Pn} {g h u K A : Int} (he : (ptOwn D L g h u).2.2 = 0) : ptPoint D L g h u K A = if (tabGet D (ptOwn D L g h u).1 (ptOwn D L g h u).2.1 (u % 16)).2 ≠ 0 then (L, (tabGet D (ptOwn D L g h u).1 (ptOwn D L g h u).2.1 (u % 16)).2)
  else if (putSteps D (ptOwn D L g h u).1 (ptOwn D L g h u).2.1 u K A).2 ≠ 0 then (L, (putSteps D (ptOwn D L g h u).1 (ptOwn D L g h u).2.1 u K A).2)
  else ((putSteps D (ptOwn D L g h u).1 (ptOwn D L g h u).2.1 u K A).1, 0) := by rw [ptPoint, if_neg (by rw [he]; simp)]
end Pn
end Go.Proofs.YtjhnaeomaigimaaGreatDoor
