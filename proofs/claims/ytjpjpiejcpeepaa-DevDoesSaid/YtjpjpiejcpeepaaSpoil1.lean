/- Sorted numbers: one more, or one less, in a slice of the call's own (slices.BinarySearch, Insert, Delete). -/
import Derived.Test.YtjpjpiejcpeepaaSpoilLaw
import Derived.Test.YtjpjpiejcpeepaaDev1
import Derived.Test.YtjpjpiejcpeepaaShelfB
import Derived.Shelf.Spec.SlicesInsert
import Derived.Shelf.Spec.SlicesInsertGrow
set_option linter.unusedVariables false
namespace Go.Proofs.Ytjpjpiejcpeepaa
open Go.RowKit Go.Shelf
/-! ### The plain part -/
theorem incr_pairwise : ∀ (l : List Int), incr l = true → l.Pairwise (· < ·)
  | [], _ => List.Pairwise.nil
  | [a], _ => List.pairwise_singleton _ _
  | a :: b :: l, h => by
    simp only [incr, Bool.and_eq_true, decide_eq_true_eq] at h
    have ih := incr_pairwise (b :: l) h.2
    refine List.Pairwise.cons (fun x hx => ?_) ih
    rcases List.mem_cons.1 hx with rfl | hx
    · exact h.1
    · have := (List.pairwise_cons.1 ih).1 x hx
      omega
theorem sorted_split (k : Int) : ∀ (l : List Int), l.Pairwise (· < ·) → l.filter (· < k) = l.take (l.countP (· < k)) ∧ l.filter (fun x => !decide (x < k)) = l.drop (l.countP (· < k))
  | [], _ => ⟨rfl, rfl⟩
  | a :: l, h => by
    obtain ⟨h1, h2⟩ := List.pairwise_cons.1 h
    obtain ⟨i1, i2⟩ := sorted_split k l h2
    by_cases ha : a < k
    · simp [ha, i1]
      have := i2
      simpa using this
    · have hn : l.countP (· < k) = 0 := List.countP_eq_zero.2 fun x hx => by have := h1 x hx; simp; omega
      have hf : l.filter (· < k) = [] := List.filter_eq_nil_iff.2 fun x hx => by have := h1 x hx; simp; omega
      have hg : l.filter (fun x => !decide (x < k)) = l := List.filter_eq_self.2 fun x hx => by have := h1 x hx; simp; omega
      have hd : decide (a < k) = false := by simpa using ha
      simp only [List.filter_cons, List.countP_cons, hd, hn, hf, hg]
      simp
theorem countP_le (l : List Int) (k : Int) : l.countP (· < k) ≤ l.length := List.countP_le_length
theorem spoilt_in {l : List Int} (hs : l.Pairwise (· < ·)) {k : Int} (hk : k ∉ l) : Dk.spoilt l k true = l.take (l.countP (· < k)) ++ k :: l.drop (l.countP (· < k)) := by
  obtain ⟨h1, h2⟩ := sorted_split k l hs
  rw [Dk.spoilt, if_pos rfl, if_neg hk, h1, ← h2]
  congr 2
  refine List.filter_congr fun x hx => ?_
  have : x ≠ k := fun e => hk (e ▸ hx)
  rw [Bool.eq_iff_iff]
  simp
  omega
theorem spoilt_out {l : List Int} (hs : l.Pairwise (· < ·)) {k : Int} (hk : k ∈ l) : l.countP (· < k) < l.length ∧ Dk.spoilt l k false = l.take (l.countP (· < k)) ++ l.drop (l.countP (· < k) + 1) := by
  induction l with
  | nil => cases hk
  | cons a l ih =>
    obtain ⟨h1, h2⟩ := List.pairwise_cons.1 hs
    rcases List.mem_cons.1 hk with rfl | hk
    · have hn : l.countP (· < k) = 0 := List.countP_eq_zero.2 fun x hx => by have := h1 x hx; simp; omega
      have hf : l.filter (fun x => decide (x ≠ k)) = l := List.filter_eq_self.2 fun x hx => by have := h1 x hx; simp; omega
      have hd : decide (k < k) = false := by simp
      have hd' : decide (k ≠ k) = false := by simp
      simp only [Dk.spoilt, List.countP_cons, hd, hn, List.filter_cons, hd', hf]
      simp
    · have ha := h1 k hk
      obtain ⟨i1, i2⟩ := ih h2 hk
      have hd : decide (a < k) = true := by simpa using ha
      have hd' : decide (a ≠ k) = true := by simp; omega
      simp only [Dk.spoilt, Bool.false_eq_true, if_false] at i2 ⊢
      simp only [List.countP_cons, hd, List.filter_cons, hd', if_true, i2, List.take_succ_cons, List.drop_succ_cons, List.length_cons, List.cons_append]
      exact ⟨by omega, trivial⟩
theorem spoilt_same {l : List Int} {k : Int} : (k ∈ l → Dk.spoilt l k true = l) ∧ (k ∉ l → Dk.spoilt l k false = l) := by
  refine ⟨fun h => by simp [Dk.spoilt, h], fun h => ?_⟩
  rw [Dk.spoilt, if_neg (by simp)]
  exact List.filter_eq_self.2 fun x hx => by
    have : x ≠ k := fun e => h (e ▸ hx)
    simpa using this
/-! ### Rows -/
theorem Blk.setCells {g : Nat} {t : TypeId} (vs : List Value) : ∀ {W : World} {cs : Array Value} (o : Nat), Blk W g t cs → o + vs.length ≤ cs.size → Blk (W.setCells g o vs) g t (cs.toList.take o ++ vs ++ cs.toList.drop (o + vs.length)).toArray := by
  induction vs with
  | nil => intro W cs o h hl; simpa [World.setCells] using h
  | cons x vs ih =>
    intro W cs o h hl
    simp only [List.length_cons] at hl
    have h1 := ih (o + 1) (h.set o x) (by rw [Array.size_setIfInBounds]; omega)
    have e : (cs.setIfInBounds o x).toList.take (o + 1) ++ vs ++ (cs.setIfInBounds o x).toList.drop (o + 1 + vs.length) = cs.toList.take o ++ (x :: vs) ++ cs.toList.drop (o + (vs.length + 1)) := by
      have hl' : o < cs.toList.length := by simpa using (by omega : o < cs.size)
      rw [Array.toList_setIfInBounds, List.take_succ_eq_append_getElem (by rw [List.length_set]; exact hl'), List.take_set_of_le (by omega), List.drop_set_of_lt (by omega)]
      simp
      congr 1; omega
    rw [e] at h1
    exact h1
theorem own_blk {W : World} {base g n c : Nat} {t : TypeId} {xs : List Value} (h : W.ownsRow base t 1 (.slice (some ⟨g, 0, none⟩) n c) n xs) : base ≤ g ∧ n ≤ c ∧ c ≤ maxLen ∧ xs.length = n ∧ ∃ cur, Blk W g t cur ∧ cur.size = c ∧ cur.toList.take n = xs := by
  rcases h.2 with ⟨h', _⟩ | ⟨g', cap, cur, h', hb, hg, h1, h2, h3, h4⟩
  · cases h'
  · injection h' with h' _ h5
    injection h' with h'
    injection h' with h'
    subst h' h5
    exact ⟨hb, h1, h2, by simpa using h.1, cur, hg, by simpa using h3, by simpa using h4⟩
theorem blk_own_row {W : World} {base g n c : Nat} {t : TypeId} {xs : List Value} {cur : Array Value} (hb : base ≤ g) (h : Blk W g t cur) (h1 : n ≤ c) (h2 : c ≤ maxLen) (h3 : cur.size = c) (hx : xs.length = n) (h4 : cur.toList.take n = xs) :
    W.ownsRow base t 1 (.slice (some ⟨g, 0, none⟩) n c) n xs := ⟨by simpa using hx, .inr ⟨g, c, cur, rfl, hb, h, h1, h2, by simpa using h3, by simpa using h4⟩⟩
theorem below_setCells_at {B : Nat} {W X : World} {g : Nat} (h : Below B W X) (hg : B ≤ g) (vs : List Value) (o : Nat) : Below B W (X.setCells g o vs) := below_setCells' hg vs o h
/-- The laying of slices.Insert at []int. -/
def Try.insRen : Go.Shelf.Ren := ⟨fun | 21 => 75 | 27 => 92 | 28 => 93 | 35 => 101 | 39 => 104 | n => n, fun | 22 => 23 | 3 => 3 | 4 => 4 | 0 => 0 | n => n, fun | n => n⟩
theorem Try.laysIns : Go.Proofs.Lays2.n21 Try.prog Try.insRen := {
  mixed := by kernel_rfl
  f21 := Try.func75.trans (congrArg some (by kernel_rfl))
  f27 := Try.func92.trans (congrArg some (by kernel_rfl))
  f28 := Try.func93.trans (congrArg some (by kernel_rfl))
  f35 := Try.func101.trans (congrArg some (by kernel_rfl))
  f39 := Try.func104.trans (congrArg some (by kernel_rfl))
  t0 := Try.underlying0
  a0 := Try.isAgg0
  z0 := Try.sizeOf0
  v0 := Try.zeroValue0
  t3 := Try.underlying3
  a3 := Try.isAgg3
  z3 := Try.sizeOf3
  v3 := Try.zeroValue3
  t4 := Try.underlying4
  a4 := Try.isAgg4
  z4 := Try.sizeOf4
  v4 := Try.zeroValue4
  t22 := Try.underlying23
  a22 := Try.isAgg23
  z22 := Try.sizeOf23
  v22 := Try.zeroValue23
  i3 := by kernel_rfl }
theorem getD_some (l : List Int) (j : Nat) (hj : j < l.length) : l.getD j 0 = l[j] := by
  rw [List.getD_eq_getElem?_getD, List.getElem?_eq_getElem hj]; rfl
theorem search_any (A : Option Addr) (l : List Int) (c : Nat) (x : Int) (w : World) (hA : Cells w A (intCells l)) (hs : l.Pairwise (· < ·)) (hl : l.length ≤ 1000000) :
    Calls Try.prog 74 #[.slice A l.length c, .int .i64 x] w fun e w' => e = .returned (.tuple #[.int .i64 (l.countP (· < x) : Nat), .bool (decide (x ∈ l))]) ∧ Below w.heap.size w w' := by
  cases l with
  | nil =>
    refine (Try.slices_BinarySearch_int_empty A c x w).mono ?_
    rintro e w' ⟨rfl, rfl⟩
    exact ⟨by simp, Below.refl _ _⟩
  | cons a l =>
    obtain ⟨b, off, rfl, hc⟩ := hA.int (i := 0) (by simp)
    refine (Try.slices_BinarySearch_int b off (a :: l).length c (a :: l) x w (Nat.le_refl _) (by omega) (fun j hj => by rw [hc j hj, getD_some _ _ hj]) (by rw [List.take_length]; exact hs.imp (fun h => Int.le_of_lt h))).mono ?_
    rintro e w' ⟨rfl, q, rfl⟩
    rw [List.take_length]
    exact ⟨by simp [List.contains_eq_mem], drewN_below w q⟩
/-- One more: in place, or in a new row. -/
theorem insert_own {W : World} {base : Nat} {A : Option Addr} {c : Nat} {l : List Int} {k vb : Nat} {x : Int} (hr : W.ownsRow base 3 1 (.slice A l.length c) l.length (intCells l)) (hk : k ≤ l.length) (hl : l.length ≤ 1000000)
    (hb : base ≤ W.heap.size) (hv : Blk W vb 3 #[.int .i64 x]) (hne : ∀ g, A = some ⟨g, 0, none⟩ → vb ≠ g) :
    Calls Try.prog 75 #[.slice A l.length c, .int .i64 k, .slice (some ⟨vb, 0, none⟩) 1 1] W fun e w' => ∃ A' c', e = .returned (.slice A' (l.length + 1) c') ∧
      w'.ownsRow base 3 1 (.slice A' (l.length + 1) c') (l.length + 1) (intCells (l.take k ++ x :: l.drop k)) ∧ Below base W w' := by
  have hvs : ∀ j v, [Value.int .i64 x][j]? = some v → W.cell? ⟨vb, 0 + j, none⟩ = some v := fun j v hj => by
    rw [Nat.zero_add, hv.cell]; simpa using hj
  have hvs1 : ∀ v ∈ [Value.int .i64 x], v.oneCell' = true := fun v hv => by rw [List.mem_singleton.1 hv]; rfl
  have hli : (intCells l).length = l.length := intCells_length l
  have hres : (intCells (l.take k ++ x :: l.drop k)).length = l.length + 1 := by rw [intCells_length]; simp; omega
  have hgrown : ∀ {X : World} {g cp : Nat} {cur : Array Value}, base ≤ g → Blk X g 3 cur → cp ≤ maxLen → l.length + 1 ≤ cp → cur.size = cp → cur.toList.take (l.length + 1) = intCells (l.take k ++ x :: l.drop k) →
      X.ownsRow base 3 1 (.slice (some ⟨g, 0, none⟩) (l.length + 1) cp) (l.length + 1) (intCells (l.take k ++ x :: l.drop k)) := fun h1 h2 h3 h4 h5 h6 => blk_own_row h1 h2 h4 h3 h5 hres h6
  have hsplit : intCells (l.take k ++ x :: l.drop k) = (intCells l).take k ++ Value.int .i64 x :: (intCells l).drop k := by
    simp [intCells, List.map_take, List.map_drop]
  have hz1 : (Value.int .i64 0).cells.size = 1 := rfl
  rcases hr.2 with ⟨e, hn⟩ | ⟨g, cap, cur, e, hg, hcur, h1, h2, h3, h4⟩
  · injection e with eA en ec
    subst eA ec
    obtain rfl : k = 0 := by omega
    have hl0 : l = [] := List.eq_nil_of_length_eq_zero hn
    subst hl0
    refine (Any2.slices_Insert_int_end_grow Try.laysIns none 0 0 vb 0 1 1 [] [.int .i64 x] W (by omega) (by omega) (by omega) (by omega) rfl rfl (fun _ => rfl) (fun a h => by cases h) hvs hvs1).mono ?_
    rintro e w' ⟨rfl, rfl⟩
    have hbk := Blk.new W.drew 3 (([] ++ [Value.int .i64 x]).toArray ++ Builtin.zeroCells (Value.int .i64 0).cells (grownCap W (0 + 1) 0 3 - (0 + 1)))
    have hge := grownCap_ge W (0 + 1) 0 3
    have hle := grownCap_le_maxLen W (0 + 1) 0 3 (by unfold maxLen; omega)
    refine ⟨some ⟨W.heap.size, 0, none⟩, grownCap W (0 + 1) 0 3, rfl, hgrown hb hbk hle hge ?_ ?_, ((Below.refl _ _).drew.alloc hb _)⟩
    · rw [Array.size_append, size_zeroCells, hz1]
      simp only [List.nil_append, List.size_toArray, List.length_singleton]
      omega
    · simp [intCells]
  · injection e with eA en ec
    subst eA ec
    rw [Nat.mul_one] at h3 h4
    have hbk : Blk W g 3 cur := hcur
    have hcs : ∀ j v, (intCells l)[j]? = some v → W.cell? ⟨g, 0 + j, none⟩ = some v := fun j v hj => by
      rw [Nat.zero_add, hbk.cell, ← Array.getElem?_toList, ← h4] at *
      rw [List.getElem?_take] at hj
      split at hj
      · exact hj
      · cases hj
    have h1c := one_ints l
    have hcl : cur.toList.length = c := by simpa using h3
    rcases Nat.lt_or_eq_of_le hk with hlt | rfl
    · by_cases hroom : l.length + 1 ≤ c
      · refine (Any2.slices_Insert_int_shift Try.laysIns g 0 l.length c k vb 0 1 1 (intCells l) [.int .i64 x] W hlt (by omega) hroom (by unfold maxLen at h2; omega) (hne g rfl) hli rfl hcs (fun j hj => by rw [Nat.zero_add, hbk.cell, Array.getElem?_eq_getElem (by omega)]; rfl)
          (fun j _ => hbk.frozen _) hvs h1c hvs1 3 3 1 c (by simp only [World.shape?, show W.heap[vb]? = _ from hv]; rfl) (by simp only [World.shape?, show W.heap[g]? = _ from hbk, h3]) (by omega) (hv.frozen _) (hv.frozen _)).mono ?_
        rintro e w' ⟨rfl, rfl⟩
        have b1 := Blk.setCells ((intCells l).drop k) (0 + (k + 1)) hbk.drew (by rw [List.length_drop, hli]; omega)
        have b2 := Blk.setCells [Value.int .i64 x] (0 + k) b1 (by simp; omega)
        refine ⟨_, _, rfl, hgrown hg b2 h2 hroom ?_ ?_, below_setCells_at (below_setCells_at (Below.refl _ _).drew hg _ _) hg _ _⟩
        · simp; omega
        · rw [hsplit]
          simp only [Nat.zero_add, List.length_singleton, List.length_drop, hli]
          have e1 : cur.toList.take k = (intCells l).take k := by rw [← h4, List.take_take]; congr 1; omega
          have e2 : ((cur.toList.take (k + 1) ++ (intCells l).drop k ++ cur.toList.drop (k + 1 + (l.length - k)))).take k = (intCells l).take k := by
            rw [List.append_assoc, List.take_append_of_le_length (by rw [List.length_take]; omega), List.take_take, ← e1]; congr 1; omega
          have e3 : ((cur.toList.take (k + 1) ++ (intCells l).drop k ++ cur.toList.drop (k + 1 + (l.length - k)))).drop (k + 1) = (intCells l).drop k ++ cur.toList.drop (k + 1 + (l.length - k)) := by
            rw [List.append_assoc, List.drop_append_of_le_length (by rw [List.length_take]; omega), List.drop_eq_nil_of_le (by rw [List.length_take]; omega)]; rfl
          rw [e2, e3]
          have e4 : ((intCells l).take k ++ [Value.int .i64 x] ++ ((intCells l).drop k ++ cur.toList.drop (k + 1 + (l.length - k)))) = ((intCells l).take k ++ Value.int .i64 x :: (intCells l).drop k) ++ cur.toList.drop (k + 1 + (l.length - k)) := by simp
          rw [e4, List.take_append_of_le_length (by simp [hli]; omega), List.take_of_length_le (by simp [hli]; omega)]
      · refine (Any2.slices_Insert_int_grow Try.laysIns g 0 l.length c k vb 0 1 1 (intCells l) [.int .i64 x] W hlt (by omega) h1 (by omega) (by omega) hli rfl hcs hvs h1c hvs1).mono ?_
        rintro e w' ⟨rfl, rfl⟩
        have hge := grownCap_ge W (l.length + 1) c 3
        have hle := grownCap_le_maxLen W (l.length + 1) c 3 (by unfold maxLen; omega)
        have b0 := Blk.new W 3 (((intCells l).take k).toArray ++ Builtin.zeroCells (Value.int .i64 0).cells (l.length + 1 - k) ++ Builtin.zeroCells (Value.int .i64 0).cells (grownCap W (l.length + 1) c 3 - (l.length + 1)))
        have bsz : (((intCells l).take k).toArray ++ Builtin.zeroCells (Value.int .i64 0).cells (l.length + 1 - k) ++ Builtin.zeroCells (Value.int .i64 0).cells (grownCap W (l.length + 1) c 3 - (l.length + 1))).size = grownCap W (l.length + 1) c 3 := by
          rw [Array.size_append, Array.size_append, size_zeroCells, size_zeroCells, hz1]; simp [hli]; omega
        have btk : (((intCells l).take k).toArray ++ Builtin.zeroCells (Value.int .i64 0).cells (l.length + 1 - k) ++ Builtin.zeroCells (Value.int .i64 0).cells (grownCap W (l.length + 1) c 3 - (l.length + 1))).toList.take k = (intCells l).take k := by
          rw [Array.toList_append, Array.toList_append, List.append_assoc, List.take_append_of_le_length (by simp [hli]; omega), List.take_of_length_le (by simp [hli]; omega)]
        generalize hcur' : (((intCells l).take k).toArray ++ Builtin.zeroCells (Value.int .i64 0).cells (l.length + 1 - k) ++ Builtin.zeroCells (Value.int .i64 0).cells (grownCap W (l.length + 1) c 3 - (l.length + 1))) = cur' at *
        have hcl' : cur'.toList.length = grownCap W (l.length + 1) c 3 := by simpa using bsz
        have b1 := Blk.setCells [Value.int .i64 x] k b0.drew (by simp; omega)
        have b2 := Blk.setCells ((intCells l).drop k) (k + 1) b1.drew (by simp [hli]; omega)
        have e2 : (cur'.toList.take k ++ [Value.int .i64 x] ++ cur'.toList.drop (k + [Value.int .i64 x].length)).take (k + 1) = (intCells l).take k ++ [Value.int .i64 x] := by
          rw [List.take_append_of_le_length (by simp; omega), List.take_of_length_le (by simp; omega), btk]
        have hfin := hgrown hb b2 hle hge (by simp; omega) (by
          rw [hsplit]
          show ((cur'.toList.take k ++ [Value.int .i64 x] ++ cur'.toList.drop (k + [Value.int .i64 x].length)).take (k + 1) ++ (intCells l).drop k ++ _).take (l.length + 1) = _
          rw [e2, List.take_append_of_le_length (by simp [hli]; omega), List.take_of_length_le (by simp [hli]; omega)]
          simp)
        exact ⟨some ⟨W.heap.size, 0, none⟩, grownCap W (l.length + 1) c 3, rfl, by subst hcur'; exact hfin, below_setCells_at (below_setCells_at ((Below.refl _ _).alloc hb _).drew hb _ _).drew hb _ _⟩
    · by_cases hroom : l.length + 1 ≤ c
      · refine (Any2.slices_Insert_int_end_room Try.laysIns g 0 l.length c vb 0 1 1 [.int .i64 x] W (by omega) hroom (by unfold maxLen at h2; omega) rfl (fun j hj => by rw [hbk.cell, Array.getElem?_eq_getElem (by omega)]; rfl) (fun j _ => hbk.frozen _) hvs hvs1).mono ?_
        rintro e w' ⟨rfl, rfl⟩
        have b1 := Blk.setCells [Value.int .i64 x] (0 + l.length) hbk (by simp; omega)
        refine ⟨_, _, rfl, hgrown hg b1 h2 hroom (by simp; omega) ?_, below_setCells_at (Below.refl _ _) hg _ _⟩
        rw [hsplit]
        simp only [Nat.zero_add, List.length_singleton, h4]
        rw [List.take_append_of_le_length (by simp [hli]), List.take_of_length_le (by simp [hli]), List.take_of_length_le (by omega), List.drop_eq_nil_of_le (by omega)]
      · refine (Any2.slices_Insert_int_end_grow Try.laysIns (some ⟨g, 0, none⟩) l.length c vb 0 1 1 (intCells l) [.int .i64 x] W (by omega) h1 (by omega) (by omega) hli rfl (fun h => by cases h)
          (fun a ha j v hj => by injection ha with ha; subst ha; rw [add_at]; exact hcs j v hj) hvs hvs1).mono ?_
        rintro e w' ⟨rfl, rfl⟩
        have b1 := Blk.new W.drew 3 ((intCells l ++ [Value.int .i64 x]).toArray ++ Builtin.zeroCells (Value.int .i64 0).cells (grownCap W (l.length + 1) c 3 - (l.length + 1)))
        have hge := grownCap_ge W (l.length + 1) c 3
        have hle := grownCap_le_maxLen W (l.length + 1) c 3 (by unfold maxLen; omega)
        refine ⟨some ⟨W.heap.size, 0, none⟩, grownCap W (l.length + 1) c 3, rfl, hgrown hb b1 hle hge ?_ ?_, ((Below.refl _ _).drew.alloc hb _)⟩
        · rw [Array.size_append, size_zeroCells, hz1]; simp [hli]; omega
        · have q1 : (intCells l).take l.length = intCells l := List.take_of_length_le (by omega)
          have q2 : (intCells l).drop l.length = [] := List.drop_eq_nil_of_le (by omega)
          rw [hsplit, q1, q2, Array.toList_append, List.take_append_of_le_length (by simp [hli]), List.take_of_length_le (by simp [hli])]
/-- One less: in place. -/
theorem delete_own {W : World} {base : Nat} {A : Option Addr} {c : Nat} {l : List Int} {k : Nat} (hr : W.ownsRow base 3 1 (.slice A l.length c) l.length (intCells l)) (hk : k < l.length) (hl : l.length ≤ 1000000) :
    Calls Try.prog 76 #[.slice A l.length c, .int .i64 k, .int .i64 ((k : Int) + 1)] W fun e w' => ∃ A' c', e = .returned (.slice A' (l.length - 1) c') ∧
      w'.ownsRow base 3 1 (.slice A' (l.length - 1) c') (l.length - 1) (intCells (l.take k ++ l.drop (k + 1))) ∧ Below base W w' := by
  have hli : (intCells l).length = l.length := intCells_length l
  rcases hr.2 with ⟨e, hn⟩ | ⟨g, cap, cur, e, hg, hcur, h1, h2, h3, h4⟩
  · omega
  · injection e with eA en ec
    subst eA ec
    rw [Nat.mul_one] at h3 h4
    have hbk : Blk W g 3 cur := hcur
    have hcs : ∀ j, j < l.length → W.cell? ⟨g, 0 + j, none⟩ = some (.int .i64 (l.getD j 0)) := fun j hj => by
      have hj' : (intCells l)[j]? = some (.int .i64 l[j]) := by simp [intCells, hj]
      rw [Nat.zero_add, hbk.cell, ← Array.getElem?_toList, getD_some _ _ hj]
      rw [← h4, List.getElem?_take, if_pos hj] at hj'
      exact hj'
    have hcl : cur.toList.length = c := by simpa using h3
    have hz := Try.slices_Delete_int_cells g 0 l.length c k (k + 1) l W (Nat.le_refl _) h1 (by unfold maxLen at h2; omega) (by omega) (by omega) hcs (fun j _ => hbk.frozen _)
    rw [show (((k + 1 : Nat)) : Int) = (k : Int) + 1 by omega] at hz
    refine hz.mono ?_
    rintro e w' ⟨rfl, q, rfl⟩
    have b1 := Blk.setCells (((l.take l.length).take k ++ (l.take l.length).drop (k + 1) ++ List.replicate (k + 1 - k) 0).map (Value.int .i64)) 0 (hbk.drewN q) (by simp; omega)
    have e1 : l.length - (k + 1 - k) = l.length - 1 := by omega
    rw [e1]
    refine ⟨some ⟨g, 0, none⟩, c, rfl, blk_own_row hg b1 (by omega) h2 ?_ ?_ ?_, below_setCells_at (below_drewN (Below.refl _ _) q) hg _ _⟩
    · simp; omega
    · rw [intCells_length]; simp; omega
    · simp only [List.take_zero, List.nil_append, List.take_length, List.map_append, List.append_assoc]
      rw [← List.append_assoc, List.take_append_of_le_length (by simp; omega), List.take_of_length_le (by simp; omega)]
      simp [intCells]
end Go.Proofs.Ytjpjpiejcpeepaa
