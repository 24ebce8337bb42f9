/- How often clusters are counted: the plain words and laws. Nothing of the program stands here. What is told one by one, with the first error; all counts: the plain words and laws. Nothing of the program stands here. What is counted oftener and less often again. Nothing of the program stands here. -/
import Derived.Test.YtkiokdphjfkocaaPlanLaw
namespace Go.Proofs.Ytkiokdphjfkocaa

theorem un_cat (a b : List UInt8) : un (a ++ b) = un a * 256 ^ b.length + un b := by
  have h : ∀ (l : List UInt8) (n : Nat), l.foldl (fun n c => n * 256 + c.toNat) n = n * 256 ^ l.length + un l := by
    intro l
    induction l with
    | nil => intro n; simp [un]
    | cons c l ih =>
      intro n
      rw [List.foldl_cons, ih]
      show _ = n * 256 ^ (l.length + 1) + un (c :: l)
      have e : un (c :: l) = (0 * 256 + c.toNat) * 256 ^ l.length + un l := by rw [un, List.foldl_cons, ih]
      rw [e, Nat.pow_succ, Nat.add_mul]
      simp only [Nat.zero_mul, Nat.zero_add]
      rw [Nat.mul_assoc, Nat.mul_comm 256]
      omega
  rw [un, List.foldl_append]
  exact h b _
theorem un_bes (k : Nat) : ∀ n : Nat, un (be k n) = n % 256 ^ k := by
  induction k with
  | zero => intro n; simp [be, un, Nat.mod_one]
  | succ k ih =>
    intro n
    have e : be (k + 1) n = [UInt8.ofNat (n / 256 ^ k)] ++ be k n := rfl
    rw [e, un_cat, ih, be_length]
    have h1 : un [UInt8.ofNat (n / 256 ^ k)] = n / 256 ^ k % 256 := by simp [un]
    rw [h1, Nat.pow_succ, Nat.mod_mul]
    rw [Nat.mul_comm, Nat.add_comm]
/-- What stands in a text at a place. -/
def cut (s : List UInt8) (o n : Nat) : List UInt8 := (s.drop o).take n
theorem cut_length {s : List UInt8} {o n : Nat} (h : o + n ≤ s.length) : (cut s o n).length = n := by simp [cut]; omega
theorem cut_get {s : List UInt8} {o n j : Nat} : (cut s o n)[j]? = if j < n then s[o + j]? else none := by
  unfold cut
  split
  · rename_i h; rw [List.getElem?_take_of_lt h, List.getElem?_drop]
  · rename_i h; rw [List.getElem?_eq_none]; simp; omega
theorem cut_over {s t : List UInt8} {o : Nat} (h : o + t.length ≤ s.length) : cut (over s o t) o t.length = t := by
  apply List.ext_getElem?
  intro j
  rw [cut_get]
  split
  · rename_i hj; rw [over_get _ _ _ _ h, if_pos ⟨by omega, by omega⟩]; congr 1; omega
  · rename_i hj; rw [List.getElem?_eq_none]; omega
theorem cut_over_other {s t : List UInt8} {o p n : Nat} (h : o + t.length ≤ s.length) (hp : p + n ≤ o ∨ o + t.length ≤ p) : cut (over s o t) p n = cut s p n := by
  apply List.ext_getElem?
  intro j
  rw [cut_get, cut_get]
  split
  · rename_i hj; rw [over_get _ _ _ _ h, if_neg (by omega)]
  · rfl
theorem over_back {s t u : List UInt8} {o : Nat} (h : o + t.length ≤ s.length) (hl : t.length = u.length) : over (over s o t) o u = over s o u := by
  apply List.ext_getElem?
  intro j
  rw [over_get (over s o t) u o j (by rw [over_length _ _ _ h]; omega), over_get s t o j h, over_get s u o j (by omega)]
  by_cases hj : o ≤ j ∧ j < o + u.length
  · rw [if_pos hj, if_pos hj]
  · rw [if_neg hj, if_neg hj, if_neg (by omega)]

/-! ### Sectors as they will be -/
theorem Dk.read_full {D : Dk} (hD : D.fit = true) {k : Int} (h : (D.read k).2 = 0) : (D.read k).1.length = 64 := by
  obtain ⟨_, _, hl, _, hc, _⟩ := Dk.fit_parts hD
  revert h
  rw [Dk.read]
  split
  · intro h; simp at h
  · split
    · intro h; simp at h
    · rename_i ht
      split
      · intro h; simp at h
      · intro _
        simp only [Dk.there, Bool.and_eq_false_iff, decide_eq_false_iff_not, not_or, Classical.not_not] at ht
        show (D.sees k).length = 64
        rw [Dk.sees]
        cases h : Dk.seesIn D.cache k with
        | some s =>
          rw [Option.getD_some]
          clear ht
          have : ∀ (l : List (Int × List UInt8)), (∀ i (h : i < l.length), l[i].2.length = 64) → Dk.seesIn l k = some s → s.length = 64 := by
            intro l
            induction l with
            | nil => intro _ h; simp [Dk.seesIn] at h
            | cons x l ih =>
              intro hx h
              rw [Dk.seesIn] at h
              split at h
              · rename_i s' e
                injection h with h; subst h
                exact ih (fun i hi => by have := hx (i + 1) (by simpa using hi); simpa using this) e
              · split at h
                · injection h with h; subst h; exact hx 0 (by simp)
                · cases h
          exact this _ (fun i hi => (hc i hi).2.2) h
        | none =>
          rw [Option.getD_none, Dk.sector, List.length_drop, List.length_take]
          have h1 : k.toNat + 1 ≤ D.sz := by omega
          have h2 : (k.toNat + 1) * 64 ≤ D.data.length := by rw [hl]; exact Nat.mul_le_mul_right 64 h1
          omega
namespace Pn
theorem look_full {D : Dk} {L : Pn} (hD : D.fit = true) (hL : L.Fit) {k : Int} (h : (look D L k).2 = 0) : (look D L k).1.length = 64 := by
  revert h
  rw [look]
  split
  · rename_i hm
    intro _
    obtain ⟨i, hi, _, _, e⟩ := find_in hm
    have h0 : i < L.data.length := by rw [← hL.1]; exact hi
    rw [e, List.getD_eq_getElem?_getD, List.getElem?_eq_getElem h0]
    exact hL.2.2.2 i h0
  · exact Dk.read_full hD
/-- A patch that went through. -/
theorem patch_ok {D : Dk} {L X : Pn} {k o : Int} {t : List UInt8} (hD : D.fit = true) (hL : L.Fit) (h : patch D L k o t = (X, 0)) :
    (look D L k).2 = 0 ∧ 0 ≤ o ∧ o.toNat + t.length ≤ 64 ∧ L.set k (over (look D L k).1 o.toNat t) = (X, 0) := by
  rw [patch] at h
  split at h
  · rename_i h0; injection h with _ h; exact absurd h h0
  · rename_i h0
    have h0 : (look D L k).2 = 0 := by simpa using h0
    have hl := look_full hD hL h0
    by_cases h2 : o < 0 ∨ ((look D L k).1.length : Int) - t.length < o
    · rw [laidOver, if_pos h2, if_pos (by simp)] at h
      injection h with _ h; simp at h
    · rw [laidOver, if_neg h2, if_neg (by simp)] at h
      exact ⟨h0, by omega, by omega, h⟩
theorem patch_not {D : Dk} {L : Pn} {k o : Int} {t : List UInt8} (h : (patch D L k o t).2 ≠ 0) : (patch D L k o t).1 = L := by
  revert h
  rw [patch]
  split
  · intro _; rfl
  · split
    · intro _; rfl
    · exact fun h => set_not h
/-- What a patch makes of a sector, where it goes through; of all others. -/
theorem patch_look {D : Dk} {L X : Pn} {k o : Int} {t : List UInt8} (hD : D.fit = true) (hL : L.Fit) (h : patch D L k o t = (X, 0)) :
    X.Fit ∧ look D X k = (over (look D L k).1 o.toNat t, 0) ∧ (∀ j, j ≠ k → look D X j = look D L j) ∧ k ∈ X.targets := by
  obtain ⟨h0, h1, h2, h3⟩ := patch_ok hD hL h
  have hf := set_fit hL k (over (look D L k).1 o.toNat t)
  have hs := look_set hL (k := k) (s := over (look D L k).1 o.toNat t) (by rw [h3]) D
  rw [h3] at hf hs
  exact ⟨hf, hs.1, hs.2, (set_mem h3 k).2 (.inr rfl)⟩
/-- A patch of a sector that the plan has, goes through. -/
theorem patch_there {D : Dk} {L : Pn} {k o : Int} {t : List UInt8} (hD : D.fit = true) (hL : L.Fit) (hk : k ∈ L.targets) (h0 : 0 ≤ o) (h1 : o.toNat + t.length ≤ 64) : (patch D L k o t).2 = 0 := by
  obtain ⟨i, hi, _, he, e⟩ := find_in hk
  have hlk : (look D L k).2 = 0 := by rw [look, if_pos hk]
  have hl := look_full hD hL hlk
  have hok := (hL.2.2.1 i hi).1
  rw [he] at hok
  have e2 : laidOver (look D L k).1 o t = (over (look D L k).1 o.toNat t, 0) := by rw [laidOver, if_neg (by omega)]
  rw [patch, if_neg (by rw [hlk]; simp), e2, if_neg (by simp)]
  rw [set_err hok (by rw [over_length _ _ _ (by omega)]; exact hl), if_pos hk]

/-! ### Counts -/
def cntGet (D : Dk) (L : Pn) (k : Int) : Int × Int :=
  if k < 0 ∨ 256 ≤ k then (0, 10) else if (look D L (87 + k / 32)).2 ≠ 0 then (0, (look D L (87 + k / 32)).2) else ((un (cut (look D L (87 + k / 32)).1 (2 * (k % 32)).toNat 2) : Nat), 0)
def cntAdd (D : Dk) (L : Pn) (k b : Int) : Pn × Int :=
  if (cntGet D L k).2 ≠ 0 then (L, (cntGet D L k).2) else if b < -(cntGet D L k).1 ∨ 65535 - (cntGet D L k).1 < b then (L, 18)
  else patch D L (87 + k / 32) (2 * (k % 32)) (be 2 ((cntGet D L k).1 + b).toNat)
theorem cntGet_le (D : Dk) (L : Pn) (k : Int) : 0 ≤ (cntGet D L k).1 ∧ (cntGet D L k).1 ≤ 65535 := by
  rw [cntGet]
  split
  · simp
  · split
    · simp
    · have := un_lt (cut (look D L (87 + k / 32)).1 (2 * (k % 32)).toNat 2)
      have h2 : (cut (look D L (87 + k / 32)).1 (2 * (k % 32)).toNat 2).length ≤ 2 := by simp [cut]; omega
      have h3 := Nat.pow_le_pow_right (show 0 < 256 by omega) h2
      show 0 ≤ ((un (cut (look D L (87 + k / 32)).1 (2 * (k % 32)).toNat 2) : Nat) : Int) ∧ ((un (cut (look D L (87 + k / 32)).1 (2 * (k % 32)).toNat 2) : Nat) : Int) ≤ 65535
      omega
theorem cntAdd_not {D : Dk} {L : Pn} {k b : Int} (h : (cntAdd D L k b).2 ≠ 0) : (cntAdd D L k b).1 = L := by
  revert h
  rw [cntAdd]
  split
  · intro _; rfl
  · split
    · intro _; rfl
    · exact patch_not
/-- Counted oftener: what all counts are then. -/
theorem cntAdd_ok {D : Dk} {L X : Pn} {k b : Int} (hD : D.fit = true) (hL : L.Fit) (h : cntAdd D L k b = (X, 0)) :
    0 ≤ k ∧ k < 256 ∧ (cntGet D L k).2 = 0 ∧ -(cntGet D L k).1 ≤ b ∧ b ≤ 65535 - (cntGet D L k).1 ∧ X.Fit ∧ cntGet D X k = ((cntGet D L k).1 + b, 0) ∧ (∀ j, j ≠ k → cntGet D X j = cntGet D L j) ∧ 87 + k / 32 ∈ X.targets := by
  have hle := cntGet_le D L k
  rw [cntAdd] at h
  split at h
  · rename_i h0; injection h with _ h; exact absurd h h0
  · rename_i h0
    have h0 : (cntGet D L k).2 = 0 := by simpa using h0
    split at h
    · injection h with _ h; simp at h
    · rename_i h1
      have hk : ¬ (k < 0 ∨ 256 ≤ k) := fun hk => by rw [cntGet, if_pos hk] at h0; simp at h0
      obtain ⟨p1, p2, p3, p4⟩ := patch_look hD hL h
      obtain ⟨q1, q2, q3, _⟩ := patch_ok hD hL h
      have hl := look_full hD hL q1
      rw [be_length] at q3
      obtain ⟨m, hm⟩ : ∃ m : Nat, (cntGet D L k).1 + b = m := ⟨((cntGet D L k).1 + b).toNat, by omega⟩
      have hm2 : m < 65536 := by omega
      rw [hm] at p2
      simp only [Int.toNat_natCast] at p2
      refine ⟨by omega, by omega, h0, by omega, by omega, p1, ?_, fun j hj => ?_, p4⟩
      · rw [cntGet, if_neg hk, p2]
        simp only [ne_eq, not_true_eq_false, if_false]
        have e := cut_over (s := (look D L (87 + k / 32)).1) (t := be 2 m) (o := (2 * (k % 32)).toNat) (by rw [be_length, hl]; exact q3)
        rw [be_length] at e
        rw [e, un_bes, hm, Nat.mod_eq_of_lt (by omega)]
      · rw [cntGet, cntGet]
        by_cases hj2 : j < 0 ∨ 256 ≤ j
        · rw [if_pos hj2, if_pos hj2]
        · rw [if_neg hj2, if_neg hj2]
          by_cases hs : j / 32 = k / 32
          · rw [hs, p2, q1]
            simp only [ne_eq, not_true_eq_false, if_false]
            rw [cut_over_other (by rw [be_length, hl]; exact q3) (by rw [be_length]; omega)]
          · rw [p3 _ (by omega)]
/-- Where the plan has the count's sector, it can be counted as often as may be. -/
theorem cntAdd_there {D : Dk} {L : Pn} {k b : Int} (hD : D.fit = true) (hL : L.Fit) (h0 : (cntGet D L k).2 = 0) (hk : 87 + k / 32 ∈ L.targets) (h1 : -(cntGet D L k).1 ≤ b) (h2 : b ≤ 65535 - (cntGet D L k).1) : (cntAdd D L k b).2 = 0 := by
  rw [cntAdd, if_neg (by rw [h0]; simp), if_neg (by omega)]
  exact patch_there hD hL hk (by omega) (by rw [be_length]; omega)
end Pn
end Go.Proofs.Ytkiokdphjfkocaa
namespace Go.Proofs.Ytkiokdphjfkocaa

/-- The first n answers; [] and the error, where one can't be told. -/
def allN {α : Type} (f : Nat → α × Int) : Nat → List α × Int
  | 0 => ([], 0)
  | n + 1 => if (allN f n).2 ≠ 0 then allN f n else if (f n).2 ≠ 0 then ([], (f n).2) else ((allN f n).1 ++ [(f n).1], 0)
section
variable {α : Type} {f : Nat → α × Int}
theorem allN_next {n : Nat} (h : (allN f n).2 = 0) (hg : (f n).2 = 0) : allN f (n + 1) = ((allN f n).1 ++ [(f n).1], 0) := by
  rw [allN, if_neg (by rw [h]; simp), if_neg (by rw [hg]; simp)]
theorem allN_stop {n : Nat} (h : (allN f n).2 = 0) (hg : (f n).2 ≠ 0) : ∀ m, n < m → allN f m = ([], (f n).2) := by
  intro m hm
  induction m with
  | zero => omega
  | succ m ih =>
    rcases Nat.lt_or_eq_of_le (Nat.le_of_lt_succ hm) with h1 | h1
    · rw [allN, ih h1, if_pos hg]
    · subst h1
      rw [allN, if_neg (by rw [h]; simp), if_pos hg]
theorem allN_ok {n : Nat} (h : (allN f n).2 = 0) : (allN f n).1.length = n ∧ ∀ i : Nat, i < n → (f i).2 = 0 ∧ (allN f n).1[i]? = some (f i).1 := by
  induction n with
  | zero => exact ⟨rfl, fun i hi => by omega⟩
  | succ n ih =>
    by_cases h1 : (allN f n).2 = 0
    · by_cases h2 : (f n).2 = 0
      · obtain ⟨a, b⟩ := ih h1
        rw [allN_next h1 h2]
        refine ⟨by simp [a], fun i hi => ?_⟩
        rcases Nat.lt_or_eq_of_le (Nat.le_of_lt_succ hi) with h3 | h3
        · exact ⟨(b i h3).1, by show ((allN f n).1 ++ [(f n).1])[i]? = _; rw [List.getElem?_append_left (by omega)]; exact (b i h3).2⟩
        · subst h3
          exact ⟨h2, by show ((allN f i).1 ++ [(f i).1])[i]? = _; rw [List.getElem?_append_right (by omega), a]; simp⟩
      · rw [allN, if_neg (by rw [h1]; simp), if_pos h2] at h
        exact absurd h h2
    · rw [allN, if_pos h1] at h
      exact absurd h h1
theorem allN_err {n : Nat} (h : (allN f n).2 ≠ 0) : (allN f n).1 = [] := by
  induction n with
  | zero => rfl
  | succ n ih =>
    revert h
    rw [allN]
    split
    · rename_i h1; intro _; exact ih h1
    · split
      · intro _; rfl
      · intro h; exact absurd rfl h
theorem allN_len (n : Nat) : (allN f n).1.length ≤ n := by
  by_cases h : (allN f n).2 = 0
  · rw [(allN_ok h).1]; exact Nat.le_refl _
  · rw [allN_err h]; exact Nat.zero_le _
theorem allN_all {n : Nat} (h : ∀ i : Nat, i < n → (f i).2 = 0) : (allN f n).2 = 0 := by
  induction n with
  | zero => rfl
  | succ n ih => rw [allN_next (ih (fun i hi => h i (by omega))) (h n (by omega))]
theorem allN_mem (n : Nat) : ∀ x ∈ (allN f n).1, ∃ i, i < n ∧ x = (f i).1 := by
  intro x hx
  by_cases h : (allN f n).2 = 0
  · obtain ⟨a, b⟩ := allN_ok h
    obtain ⟨i, hi, rfl⟩ := List.getElem_of_mem hx
    have := (b i (by omega)).2
    rw [List.getElem?_eq_getElem hi] at this
    injection this with this
    exact ⟨i, by omega, this⟩
  · rw [allN_err h] at hx; cases hx
end
namespace Pn
def cntAll (D : Dk) (L : Pn) (n : Int) : List Int × Int := if n < 0 ∨ 256 < n then ([], 10) else allN (fun i : Nat => cntGet D L i) n.toNat
variable {D : Dk} {L : Pn}
theorem cntAll_bound (n : Int) : ∀ x ∈ (cntAll D L n).1, 0 ≤ x ∧ x ≤ 65535 := by
  intro x hx
  rw [cntAll] at hx
  split at hx
  · cases hx
  · obtain ⟨i, _, rfl⟩ := allN_mem _ x hx
    exact cntGet_le D L i
theorem cntAll_ok {n : Int} (h : (cntAll D L n).2 = 0) : 0 ≤ n ∧ n ≤ 256 ∧ (cntAll D L n).1.length = n.toNat ∧ ∀ i : Nat, (i : Int) < n → (cntGet D L i).2 = 0 ∧ (cntAll D L n).1[i]? = some (cntGet D L i).1 := by
  by_cases h1 : n < 0 ∨ 256 < n
  · rw [cntAll, if_pos h1] at h; simp at h
  · rw [cntAll, if_neg h1] at h ⊢
    obtain ⟨a, b⟩ := allN_ok h
    exact ⟨by omega, by omega, a, fun i hi => b i (by omega)⟩
theorem cntAll_err {n : Int} (h : (cntAll D L n).2 ≠ 0) : (cntAll D L n).1 = [] := by
  revert h
  rw [cntAll]
  split
  · intro _; rfl
  · exact allN_err
theorem cntAll_len (n : Int) : (cntAll D L n).1.length ≤ 256 := by
  rw [cntAll]
  split
  · simp
  · have := allN_len (f := fun i : Nat => cntGet D L i) n.toNat
    omega
end Pn
end Go.Proofs.Ytkiokdphjfkocaa
namespace Go.Proofs.Ytkiokdphjfkocaa
namespace Pn
variable {D : Dk} {L : Pn}
theorem cnt_undo {X : Pn} {k b : Int} (hD : D.fit = true) (hL : L.Fit) (h : cntAdd D L k b = (X, 0)) :
    X.Fit ∧ ∃ Y, cntAdd D X k (-b) = (Y, 0) ∧ Y.Fit ∧ ∀ o, (cntGet D X o).2 = (cntGet D L o).2 ∧ cntGet D Y o = cntGet D L o ∧ (o ≠ k → (cntGet D X o).1 = (cntGet D L o).1) ∧ (o = k → (cntGet D X o).1 = (cntGet D L o).1 + b) := by
  obtain ⟨h0, h1, h2, h3, h4, hX, h5, h6, h7⟩ := cntAdd_ok hD hL h
  have hr := cntAdd_there hD hX (k := k) (b := -b) (by rw [h5]) h7 (by rw [h5]; have := cntGet_le D L k; show -((cntGet D L k).1 + b) ≤ -b; omega) (by rw [h5]; have := cntGet_le D L k; show -b ≤ 65535 - ((cntGet D L k).1 + b); omega)
  obtain ⟨Y, hY⟩ : ∃ Y, cntAdd D X k (-b) = (Y, 0) := ⟨_, Prod.ext rfl hr⟩
  obtain ⟨_, _, _, _, _, hYf, k5, k6, _⟩ := cntAdd_ok hD hX hY
  refine ⟨hX, Y, hY, hYf, fun o => ?_⟩
  by_cases ho : o = k
  · subst ho
    rw [k5, h5, h2]
    refine ⟨rfl, ?_, fun h => absurd rfl h, fun _ => rfl⟩
    apply Prod.ext
    · show (cntGet D L o).1 + b + -b = _; omega
    · exact h2.symm
  · rw [k6 o ho, h6 o ho]
    exact ⟨rfl, rfl, fun _ => rfl, fun h => absurd h ho⟩
end Pn
end Go.Proofs.Ytkiokdphjfkocaa
