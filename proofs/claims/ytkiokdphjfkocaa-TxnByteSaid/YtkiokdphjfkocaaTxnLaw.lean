/- Transactions as sectors: the plain words and laws. Nothing of the program stands here. -/
import Derived.Test.YtkiokdphjfkocaaCrcLaw2
import Derived.Test.YtkiokdphjfkocaaRefcLaw
set_option linter.unusedVariables false
namespace Go.Proofs.Ytkiokdphjfkocaa
structure Tx where
  seq : Nat
  plan : Pn
def txSize (n : Nat) : Nat := if n = 0 ∨ 24 < n then 0 else n + (n - 1) / 16 + 2
def pad64 (s : List UInt8) : List UInt8 := s ++ List.replicate (64 - s.length) 0
def nums (l : List Int) : List UInt8 := l.flatMap fun x => be 4 x.toNat
def magicJ : List UInt8 := [67, 79, 70, 74]
def idxRows (l : List Int) : List (List UInt8) := if l.length ≤ 16 then [pad64 (nums l)] else [pad64 (nums (l.take 16)), pad64 (nums (l.drop 16))]
def headRow (h : List UInt8) (n : Nat) (b : List UInt8) : List UInt8 := pad64 (magicJ ++ h ++ be 2 (65535 - n) ++ be 4 (crcOf (h ++ b)))
namespace Tx
def zero : Tx := ⟨0, ⟨[], []⟩⟩
def rest (t : Tx) : List (List UInt8) := idxRows t.plan.targets ++ t.plan.data
def head (t : Tx) : List UInt8 := be 8 t.seq ++ be 2 t.plan.targets.length
def top (t : Tx) : List UInt8 := headRow t.head t.plan.targets.length t.rest.flatten
def rows (t : Tx) : List (List UInt8) := t.top :: t.rest
def Ok (t : Tx) : Prop := t.plan.Fit ∧ t.plan.targets ≠ []
open Classical in
noncomputable def write (t : Tx) : List (List UInt8) × Int := if t.Ok then (t.rows, 0) else ([], 25)
def same (t u : Tx) : Bool := decide (t.seq = u.seq) && t.plan.same u.plan
end Tx
def hn (s : List UInt8) : Nat := un (cut s 12 2)
def hm (s : List UInt8) : Nat := un (cut s 14 2)
def hcount (s : List UInt8) : Nat := if s.length = 64 ∧ magicJ.isPrefixOf s = true ∧ txSize (hn s) ≠ 0 ∧ hn s + hm s = 65535 then hn s else 0
/-- Sectors from the second one on, of so many. -/
def bodyOf (l : List (List UInt8)) (n : Nat) : List UInt8 := ((l.take n).drop 1).flatten
def parse (l : List (List UInt8)) (n : Nat) : Tx :=
  ⟨un (cut (l.headD []) 4 8), ⟨(List.range n).map fun i => (un (cut (bodyOf l (txSize n)) (4 * i) 4) : Int), (l.take (txSize n)).drop (txSize n - n)⟩⟩
open Classical in
noncomputable def txRead (l : List (List UInt8)) : Tx × Int :=
  if l = [] then (Tx.zero, 22) else if hcount (l.headD []) = 0 then (Tx.zero, 14) else if l.length < txSize (hcount (l.headD [])) then (Tx.zero, 22)
  else if ∃ s ∈ l.take (txSize (hcount (l.headD []))), s.length ≠ 64 then (Tx.zero, 11)
  else if be 4 (crcOf (cut (l.headD []) 4 10 ++ bodyOf l (txSize (hcount (l.headD []))))) ≠ cut (l.headD []) 16 4 then (Tx.zero, 15)
  else if (parse l (hcount (l.headD []))).write = (l.take (txSize (hcount (l.headD []))), 0) then (parse l (hcount (l.headD [])), 0) else (Tx.zero, 14)

theorem txSize_ne {n : Nat} : txSize n ≠ 0 ↔ 1 ≤ n ∧ n ≤ 24 := by unfold txSize; split <;> omega
theorem hcount_le (s : List UInt8) : hcount s ≤ 24 := by
  unfold hcount; split
  · rename_i h; exact (txSize_ne.1 h.2.2.1).2
  · omega
theorem pad64_length {s : List UInt8} (h : s.length ≤ 64) : (pad64 s).length = 64 := by simp [pad64]; omega
theorem nums_length (l : List Int) : (nums l).length = 4 * l.length := by
  induction l with
  | nil => rfl
  | cons a l ih => simp only [nums, List.flatMap_cons, List.length_append, be_length, List.length_cons] at ih ⊢; omega
theorem nums_append (l m : List Int) : nums (l ++ m) = nums l ++ nums m := by simp [nums]
theorem idxRows_length {l : List Int} (h0 : l ≠ []) (h : l.length ≤ 24) : (idxRows l).length + l.length + 1 = txSize l.length := by
  have := List.length_pos_iff.2 h0
  unfold idxRows txSize
  split
  · rw [if_neg (by omega)]; simp only [List.length_singleton]; omega
  · rw [if_neg (by omega)]; simp only [List.length_cons, List.length_nil]; omega
theorem idxRows_64 {l : List Int} (h : l.length ≤ 24) : ∀ s ∈ idxRows l, s.length = 64 := by
  intro s hs
  unfold idxRows at hs
  split at hs
  · obtain rfl := List.mem_singleton.1 hs
    exact pad64_length (by rw [nums_length]; omega)
  · rcases List.mem_cons.1 hs with rfl | hs
    · exact pad64_length (by rw [nums_length, List.length_take]; omega)
    · obtain rfl := List.mem_singleton.1 hs
      exact pad64_length (by rw [nums_length, List.length_drop]; omega)
theorem idxRows_flat (l : List Int) (h : l.length ≤ 24) : ∃ z, (idxRows l).flatten = nums l ++ z := by
  unfold idxRows
  split
  · exact ⟨_, by simp only [List.flatten_cons, List.flatten_nil, List.append_nil, pad64]; rfl⟩
  · refine ⟨List.replicate (64 - (nums (l.drop 16)).length) 0, ?_⟩
    have e : pad64 (nums (l.take 16)) = nums (l.take 16) := by
      unfold pad64; rw [nums_length, List.length_take, show 64 - 4 * min 16 l.length = 0 by omega]; simp
    simp only [List.flatten_cons, List.flatten_nil, List.append_nil, e]
    rw [pad64, ← List.append_assoc, ← nums_append, List.take_append_drop]
theorem nums_cut : ∀ (l : List Int) (z : List UInt8) (i : Nat) (h : i < l.length), cut (nums l ++ z) (4 * i) 4 = be 4 l[i].toNat := by
  intro l
  induction l with
  | nil => intro z i h; simp at h
  | cons a l ih =>
    intro z i h
    have e : nums (a :: l) ++ z = be 4 a.toNat ++ (nums l ++ z) := by simp [nums]
    rw [e]
    cases i with
    | zero =>
      rw [cut, Nat.mul_zero, List.drop_zero, List.take_left' (be_length 4 _)]; rfl
    | succ i =>
      have := ih z i (by simpa using h)
      rw [cut, show 4 * (i + 1) = (be 4 a.toNat).length + 4 * i by rw [be_length]; omega, ← List.drop_drop, List.drop_left]
      exact this
namespace Tx
theorem head_length (t : Tx) : t.head.length = 10 := by simp [head, be_length]
theorem rest_64 {t : Tx} (h : t.Ok) : ∀ s ∈ t.rest, s.length = 64 := by
  intro s hs
  rcases List.mem_append.1 hs with hs | hs
  · exact idxRows_64 h.1.2.1 s hs
  · obtain ⟨i, hi, rfl⟩ := List.getElem_of_mem hs
    exact h.1.2.2.2 i hi
end Tx
theorem headRow_eq (h : List UInt8) (n : Nat) (b : List UInt8) (hl : h.length = 10) : headRow h n b = magicJ ++ (h ++ (be 2 (65535 - n) ++ (be 4 (crcOf (h ++ b)) ++ List.replicate 44 0))) := by
  unfold headRow pad64
  have : (magicJ ++ h ++ be 2 (65535 - n) ++ be 4 (crcOf (h ++ b))).length = 20 := by simp [be_length, hl, magicJ]
  rw [this]
  simp only [List.append_assoc]
theorem headRow_length (h : List UInt8) (n : Nat) (b : List UInt8) (hl : h.length = 10) : (headRow h n b).length = 64 := by
  rw [headRow_eq h n b hl]; simp [be_length, hl, magicJ]
theorem headRow_cut (h : List UInt8) (n : Nat) (b : List UInt8) (hl : h.length = 10) :
    (headRow h n b).take 4 = magicJ ∧ cut (headRow h n b) 4 10 = h ∧ cut (headRow h n b) 14 2 = be 2 (65535 - n) ∧ cut (headRow h n b) 16 4 = be 4 (crcOf (h ++ b)) := by
  rw [headRow_eq h n b hl]
  refine ⟨List.take_left' rfl, ?_, ?_, ?_⟩
  · rw [cut, List.drop_left' (show magicJ.length = 4 from rfl), List.take_left' hl]
  · rw [cut, show 14 = 4 + 10 by rfl, ← List.drop_drop, List.drop_left' (show magicJ.length = 4 from rfl), List.drop_left' hl, List.take_left' (be_length 2 _)]
  · rw [cut, show 16 = 4 + 10 + 2 by rfl, ← List.drop_drop, ← List.drop_drop, List.drop_left' (show magicJ.length = 4 from rfl), List.drop_left' hl, List.drop_left' (be_length 2 _), List.take_left' (be_length 4 _)]
theorem cut_cut (s : List UInt8) (a b c d : Nat) (h : c + d ≤ b) : cut (cut s a b) c d = cut s (a + c) d := by
  unfold cut
  rw [List.drop_take, List.drop_drop, List.take_take, Nat.min_eq_left (by omega)]
namespace Tx
theorem top_length (t : Tx) : t.top.length = 64 := headRow_length _ _ _ t.head_length
theorem rows_64 {t : Tx} (h : t.Ok) : ∀ s ∈ t.rows, s.length = 64 := by
  intro s hs
  rcases List.mem_cons.1 hs with rfl | hs
  · exact t.top_length
  · exact rest_64 h s hs
theorem rows_length {t : Tx} (h : t.Ok) : t.rows.length = txSize t.plan.targets.length := by
  rw [← idxRows_length h.2 h.1.2.1]
  simp only [rows, rest, List.length_cons, List.length_append]
  have := h.1.1
  omega
theorem rest_length {t : Tx} (h : t.Ok) : t.rest.length + 1 = txSize t.plan.targets.length := by rw [← rows_length h]; rfl
theorem top_hn {t : Tx} (h : t.Ok) : cut t.top 12 2 = be 2 t.plan.targets.length ∧ hn t.top = t.plan.targets.length ∧ hm t.top = 65535 - t.plan.targets.length := by
  obtain ⟨h1, h2, h3, h4⟩ := headRow_cut t.head t.plan.targets.length t.rest.flatten t.head_length
  have e : cut t.top 12 2 = be 2 t.plan.targets.length := by
    have := cut_cut t.top 4 10 8 2 (by omega)
    rw [← this, top, h2, head, cut, List.drop_left' (be_length 8 _), List.take_of_length_le (by rw [be_length]; omega)]
  have := h.1.2.1
  refine ⟨e, ?_, ?_⟩
  · unfold hn; rw [e, un_be2 (by omega)]
  · unfold hm; rw [top, h3, un_be2 (by omega)]
theorem top_count {t : Tx} (h : t.Ok) : hcount t.top = t.plan.targets.length := by
  obtain ⟨e, e1, e2⟩ := top_hn h
  have := h.1.2.1
  have h0 := List.length_pos_iff.2 h.2
  have hp : magicJ.isPrefixOf t.top = true := by
    rw [List.isPrefixOf_iff_prefix]
    exact ⟨_, (headRow_eq _ _ _ t.head_length).symm⟩
  unfold hcount
  rw [e1, e2, if_pos ⟨t.top_length, hp, txSize_ne.2 ⟨h0, this⟩, by omega⟩]
/-- There and back, with any sectors behind. -/
theorem read_rows {t : Tx} (h : t.Ok) (hs : t.seq < 18446744073709551616) (l : List (List UInt8)) : txRead (t.rows ++ l) = (t, 0) := by
  have hl := rows_length h
  have hc := top_count h
  have h0 := List.length_pos_iff.2 h.2
  have h24 := h.1.2.1
  obtain ⟨c1, c2, c3, c4⟩ := headRow_cut t.head t.plan.targets.length t.rest.flatten t.head_length
  have hd : (t.rows ++ l).headD [] = t.top := rfl
  have ht : (t.rows ++ l).take (txSize t.plan.targets.length) = t.rows := List.take_left' hl
  have hb : bodyOf (t.rows ++ l) (txSize t.plan.targets.length) = t.rest.flatten := by unfold bodyOf; rw [ht]; rfl
  have hp : parse (t.rows ++ l) t.plan.targets.length = t := by
    obtain ⟨z, hz⟩ := idxRows_flat t.plan.targets h24
    have hz' : t.rest.flatten = nums t.plan.targets ++ (z ++ t.plan.data.flatten) := by rw [rest, List.flatten_append, hz, List.append_assoc]
    unfold parse
    rw [hd, hb, ht]
    have e1 : un (cut t.top 4 8) = t.seq := by
      have := cut_cut t.top 4 10 0 8 (by omega)
      rw [← this, top, c2, head, cut, List.drop_zero, List.take_left' (be_length 8 _), un_bes]
      exact Nat.mod_eq_of_lt (by omega)
    have e2 : ((List.range t.plan.targets.length).map fun i => (un (cut t.rest.flatten (4 * i) 4) : Int)) = t.plan.targets := by
      apply List.ext_getElem (by simp)
      intro i h1 h2
      rw [List.getElem_map, List.getElem_range, hz', nums_cut _ _ i h2, un_bes]
      have := (h.1.2.2.1 i h2).1
      simp only [sectorOk, Bool.and_eq_true, decide_eq_true_eq] at this
      rw [Nat.mod_eq_of_lt (by omega)]; omega
    have e3 : t.rows.drop (txSize t.plan.targets.length - t.plan.targets.length) = t.plan.data := by
      have := h.1.1
      rw [← idxRows_length h.2 h24, show (idxRows t.plan.targets).length + t.plan.targets.length + 1 - t.plan.targets.length = (idxRows t.plan.targets).length + 1 by omega, rows, List.drop_succ_cons, rest, List.drop_left]
    rw [e1, e2, e3]
  unfold txRead
  rw [hd, hc, ht, hb, hp, if_neg (by simp [rows]), if_neg (by omega), if_neg (by rw [List.length_append, hl]; omega), if_neg, if_neg, if_pos]
  · unfold write; rw [if_pos h]
  · rw [top, c2, c4]; simp
  · rintro ⟨s, hs, hne⟩; exact hne (rows_64 h s hs)
end Tx
theorem parse_size (l : List (List UInt8)) (n : Nat) : (parse l n).plan.targets.length = n := by simp [parse]
/-- What is read is written as it stood. -/
theorem read_ok {l : List (List UInt8)} (h : (txRead l).2 = 0) : l ≠ [] ∧ hcount (l.headD []) ≠ 0 ∧ txSize (hcount (l.headD [])) ≤ l.length ∧ (txRead l).1 = parse l (hcount (l.headD [])) ∧ (txRead l).1.Ok ∧
    (txRead l).1.rows = l.take (txSize (hcount (l.headD []))) ∧ (txRead l).1.plan.targets.length = hcount (l.headD []) ∧ (txRead l).1.write = (l.take (txSize (hcount (l.headD []))), 0) := by
  unfold txRead at h ⊢
  split at h
  · simp at h
  rename_i g1
  rw [if_neg g1]
  split at h
  · simp at h
  rename_i g2
  rw [if_neg g2]
  split at h
  · simp at h
  rename_i g3
  rw [if_neg g3]
  split at h
  · simp at h
  rename_i g4
  rw [if_neg g4]
  split at h
  · simp at h
  rename_i g5
  rw [if_neg g5]
  split at h
  rotate_left
  · simp at h
  rename_i g6
  rw [if_pos g6]
  refine ⟨g1, g2, by omega, rfl, ?_⟩
  have g7 := g6
  unfold Tx.write at g6
  split at g6
  · rename_i g
    exact ⟨g, (Prod.mk.inj g6).1, parse_size _ _, g7⟩
  · have := (Prod.mk.inj g6).2; simp at this

/-! ### One byte changed -/
theorem flat_set : ∀ (l : List (List UInt8)) (i j : Nat) (b : UInt8), (∀ s ∈ l, s.length = 64) → (hi : i < l.length) → j < 64 → (l.set i (l[i].set j b)).flatten = l.flatten.set (64 * i + j) b := by
  intro l
  induction l with
  | nil => intro i j b _ hi; simp at hi
  | cons s l ih =>
    intro i j b h hi hj
    have hs := h s List.mem_cons_self
    cases i with
    | zero =>
      simp only [List.set_cons_zero, List.getElem_cons_zero, List.flatten_cons, Nat.mul_zero, Nat.zero_add]
      rw [List.set_append_left _ _ (by omega)]
    | succ i =>
      simp only [List.set_cons_succ, List.getElem_cons_succ, List.flatten_cons]
      rw [ih i j b (fun s hs => h s (List.mem_cons_of_mem _ hs)) (by simpa using hi) hj, List.set_append_right _ _ (by omega)]
      congr 2; omega
theorem flat_get : ∀ (l : List (List UInt8)) (i j : Nat), (∀ s ∈ l, s.length = 64) → (hi : i < l.length) → j < 64 → l.flatten[64 * i + j]? = l[i][j]? := by
  intro l
  induction l with
  | nil => intro i j _ hi; simp at hi
  | cons s l ih =>
    intro i j h hi hj
    have hs := h s List.mem_cons_self
    cases i with
    | zero =>
      simp only [List.getElem_cons_zero, List.flatten_cons, Nat.mul_zero, Nat.zero_add]
      rw [List.getElem?_append_left (by omega)]
    | succ i =>
      simp only [List.getElem_cons_succ, List.flatten_cons]
      rw [List.getElem?_append_right (by omega), ← ih i j (fun s hs => h s (List.mem_cons_of_mem _ hs)) (by simpa using hi) hj]
      congr 1; omega
theorem cut_set_out {s : List UInt8} {j o n : Nat} {b : UInt8} (h : j < o ∨ o + n ≤ j) : cut (s.set j b) o n = cut s o n := by
  apply List.ext_getElem?
  intro k
  rw [cut_get, cut_get]
  split
  · rw [List.getElem?_set_ne (by omega)]
  · rfl
theorem cut_set_in {s : List UInt8} {j o n : Nat} {b : UInt8} (h : o ≤ j) (hj : j < o + n) : cut (s.set j b) o n = (cut s o n).set (j - o) b := by
  apply List.ext_getElem?
  intro k
  rw [cut_get]
  by_cases hk : k < n
  · rw [if_pos hk]
    by_cases e : o + k = j
    · subst e
      rw [show o + k - o = k by omega]
      by_cases hl : o + k < s.length
      · rw [List.getElem?_set_self hl, List.getElem?_set_self (by simp [cut]; omega)]
      · rw [List.getElem?_eq_none (by simp; omega), List.getElem?_eq_none (by simp [cut]; omega)]
    · rw [List.getElem?_set_ne (by omega), List.getElem?_set_ne (by omega), cut_get, if_pos hk]
  · rw [if_neg hk, List.getElem?_eq_none]
    rw [List.length_set]; simp [cut]; omega
theorem be2_inj {a b : Nat} (ha : a < 65536) (hb : b < 65536) (h : be 2 a = be 2 b) : a = b := by
  rw [← un_be2 ha, h, un_be2 hb]
theorem Tx.byte {t : Tx} (h : t.Ok) {i j : Nat} (hi : i < t.rows.length) (hj : j < 64) {b : UInt8} (hb : t.rows[i][j]? ≠ some b) : (txRead (t.rows.set i (t.rows[i].set j b))).2 ≠ 0 := by
  intro h0
  obtain ⟨r1, r2, r3, r4, r5, r6, r7, r8⟩ := read_ok h0
  generalize (txRead (t.rows.set i (t.rows[i].set j b))).1 = u at *
  have hl := rows_length h
  have hul := rows_length r5
  have h64 := rows_64 h
  rw [List.length_set, hl, ← r7] at r3
  rw [← r7] at r6
  have h24 := h.1.2.1
  have u24 := r5.1.2.1
  obtain ⟨a1, a2, a3, a4⟩ := headRow_cut t.head t.plan.targets.length t.rest.flatten t.head_length
  obtain ⟨b1, b2, b3, b4⟩ := headRow_cut u.head u.plan.targets.length u.rest.flatten u.head_length
  obtain ⟨ta, tb, tc⟩ := top_hn h
  obtain ⟨ua, ub, uc⟩ := top_hn r5
  have hnn : (t.plan.targets.length = u.plan.targets.length) → u.rows = t.rows.set i (t.rows[i].set j b) := by
    intro e
    rw [r6, ← e, List.take_of_length_le (by rw [List.length_set, hl]; exact Nat.le_refl _)]
  cases i with
  | zero =>
    have htop : u.top = t.top.set j b := by
      have e := congrArg (·[0]?) r6
      simp only [rows, List.set_cons_zero, List.getElem_cons_zero] at e
      rw [List.getElem?_take_of_lt (by rw [← hul]; simp [rows])] at e
      simpa using e
    have hn : t.plan.targets.length = u.plan.targets.length := by
      by_cases hj2 : 12 ≤ j ∧ j < 14
      · have e : be 2 (65535 - t.plan.targets.length) = be 2 (65535 - u.plan.targets.length) := by
          rw [← a3, ← b3]
          show cut t.top 14 2 = cut u.top 14 2
          rw [htop, cut_set_out (by omega)]
        have := be2_inj (by omega) (by omega) e
        omega
      · have e : be 2 t.plan.targets.length = be 2 u.plan.targets.length := by
          rw [← ta, ← ua, htop, cut_set_out (by omega)]
        exact be2_inj (by omega) (by omega) e
    have hr := hnn hn
    have hrest : u.rest = t.rest := by
      simp only [rows, List.set_cons_zero, List.cons.injEq] at hr
      exact hr.2
    by_cases hj4 : 4 ≤ j ∧ j < 14
    · have hH : u.head = t.head.set (j - 4) b := by
        rw [← b2, ← a2]
        show cut u.top 4 10 = (cut t.top 4 10).set (j - 4) b
        rw [htop, cut_set_in (by omega) (by omega)]
      have hs : be 4 (crcOf (t.head ++ t.rest.flatten)) = be 4 (crcOf (u.head ++ u.rest.flatten)) := by
        rw [← a4, ← b4]
        show cut t.top 16 4 = cut u.top 16 4
        rw [htop, cut_set_out (by omega)]
      have hs := be4_inj (crcMore_lt _ _) (crcMore_lt _ _) hs
      rw [hrest, hH, ← List.set_append_left _ _ (by rw [head_length]; omega)] at hs
      have hjl : j - 4 < (t.head ++ t.rest.flatten).length := by rw [List.length_append, head_length]; omega
      have := crcOf_set hjl hs
      apply hb
      rw [List.getElem_append_left (by rw [head_length]; omega)] at this
      rw [← this]
      show t.top[j]? = _
      rw [← List.getElem?_eq_getElem]
      conv => rhs; rw [← a2, cut_get, if_pos (by omega), show 4 + (j - 4) = j by omega]
      rfl
    · have hH : u.head = t.head := by
        rw [← b2, ← a2]
        show cut u.top 4 10 = cut t.top 4 10
        rw [htop, cut_set_out (by omega)]
      have : u.top = t.top := by unfold top; rw [hH, hrest, hn]
      apply hb
      show t.top[j]? = some b
      rw [← this, htop, List.getElem?_set_self (by rw [top_length]; exact hj)]
  | succ i =>
    have htop : u.top = t.top := by
      have e := congrArg (·[0]?) r6
      rw [List.getElem?_take_of_lt (by rw [← hul]; simp [rows])] at e
      simpa [rows] using e
    have hn : t.plan.targets.length = u.plan.targets.length := by
      have e : be 2 t.plan.targets.length = be 2 u.plan.targets.length := by rw [← ta, ← ua, htop]
      exact be2_inj (by omega) (by omega) e
    have hr := hnn hn
    have hi' : i < t.rest.length := by simpa [rows] using hi
    have hrest : u.rest = t.rest.set i (t.rest[i].set j b) := by
      simp only [rows, List.set_cons_succ, List.cons.injEq, List.getElem_cons_succ] at hr
      exact hr.2
    have hH : u.head = t.head := by
      rw [← b2, ← a2]
      show cut u.top 4 10 = cut t.top 4 10
      rw [htop]
    have hs : be 4 (crcOf (t.head ++ t.rest.flatten)) = be 4 (crcOf (u.head ++ u.rest.flatten)) := by
      rw [← a4, ← b4]
      show cut t.top 16 4 = cut u.top 16 4
      rw [htop]
    have hs := be4_inj (crcMore_lt _ _) (crcMore_lt _ _) hs
    have hr64 := rest_64 h
    rw [hrest, hH, flat_set _ _ _ _ hr64 hi' hj] at hs
    have hfl : t.rest.flatten[64 * i + j]? = t.rest[i][j]? := flat_get _ _ _ hr64 hi' hj
    have hjl : 64 * i + j < t.rest.flatten.length := by
      rcases Nat.lt_or_ge (64 * i + j) t.rest.flatten.length with h' | h'
      · exact h'
      · rw [List.getElem?_eq_none h', eq_comm, List.getElem?_eq_none_iff] at hfl
        have := hr64 _ (List.getElem_mem hi')
        omega
    have e2 : t.head ++ t.rest.flatten.set (64 * i + j) b = (t.head ++ t.rest.flatten).set (10 + (64 * i + j)) b := by
      rw [List.set_append_right _ _ (by rw [head_length]; omega), head_length]; congr 2; omega
    rw [e2] at hs
    have := crcOf_set (by rw [List.length_append, head_length]; omega) hs
    apply hb
    show t.rest[i][j]? = some b
    rw [← hfl, ← this, List.getElem_append_right (by rw [head_length]; omega)]
    simp only [head_length]
    rw [List.getElem?_eq_getElem hjl]
    congr 2; omega
theorem Tx.same_self (t : Tx) : t.same t = true := by simp [Tx.same, Pn.same_self]
end Go.Proofs.Ytkiokdphjfkocaa
