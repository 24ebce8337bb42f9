/- Package plan and the document's, function by function: a target's place, slices that are copied. Package plan: a plan with a sector more. -/
import Derived.Test.YtjhnaeomaigimaaGreatDoorPlain1
import Derived.Test.YtjhnaeomaigimaaGreatDoorDev7
set_option linter.unusedVariables false
namespace Go.Proofs.YtjhnaeomaigimaaGreatDoor
open Go.RowKit Go.Shelf
attribute [local go_sem] bs_mk bs_append bs_extract bs_size bs_toList bs_get

theorem Tryz.infoIntP : (Tryz.prog.info? 3).map (fun i => (i.zero, i.size, i.bytes)) = some (some (.int .i64 0), 1, 8) := by kernel_rfl
set_option maxHeartbeats 2000000 in
set_option maxRecDepth 100000 in
theorem clone_ints (A : Option Addr) (l : List Int) (c : Nat) (w : World) (hA : Cells w A (intCells l)) (hl : l.length ≤ 17592186044416) (hn : A = none → c = 0) :
    Calls Tryz.prog 95 #[.slice A l.length c] w fun e w' => ∃ v', e = .returned v' ∧ w'.ownsRow w.heap.size 3 1 v' l.length (intCells l) ∧ Below w.heap.size w w' := by
  have q22 : ∀ (w : World) (a : Option Addr) (n c n' c' : Nat), (binOp .eql 23 (.slice a n c) (.slice none n' c')).run Tryz.prog w = .ok (.bool a.isNone) w := fun w a n c n' c' => Lib.run_eql_slice_nil w _ _ a n c n' c' Tryz.underlying23
  obtain ⟨i0, hi, hz0, hz1, hz2⟩ := info_parts Tryz.infoIntP
  cases A with
  | none =>
    have hl0 : l = [] := by
      rcases hA with h | ⟨b, off, he, _⟩
      · have := congrArg List.length h; rw [intCells_length] at this; exact List.length_eq_zero_iff.1 (by simpa using this)
      · cases he
    subst hl0
    go_enter Tryz.func95, Tryz.ntmps95
    go_wp2_with fail
    go_ret
    exact ⟨_, rfl, World.ownsRow_nil _ _ _ _, Below.refl _ _⟩
  | some ad =>
    go_enter Tryz.func95, Tryz.ntmps95
    go_wp2_with (at_builtin; refine wpList_app rfl _ _ 23 rfl w.heap.size 3 i0 (.int .i64 0) 1 8 Tryz.underlying23 hi hz0 hz1 hz2 rfl (by decide) _ 0 [] rfl (World.ownsRow_made w #[] 0 (Nat.le_refl _) (Nat.zero_le _) rfl) (some ad) l.length c (intCells l) rfl (hA.below ((Below.refl _ _).alloc (Nat.le_refl _) _)) (by rw [intCells_length]; simp) (fun h => by cases h) (one_ints _) (by unfold maxLen; omega) (by omega) (by simp) ?_; intro v1 w3 hown1 hbl1; rw [Nat.zero_add, List.nil_append] at hown1)
    go_ret
    exact ⟨_, rfl, hown1, ((Below.refl _ _).alloc (Nat.le_refl _) _).trans hbl1⟩
theorem Tryz.infoStrP : (Tryz.prog.info? 9).map (fun i => (i.zero, i.size, i.bytes)) = some (some (.string ⟨#[]⟩), 1, 16) := by kernel_rfl
set_option maxHeartbeats 2000000 in
set_option maxRecDepth 100000 in
theorem clone_strs (A : Option Addr) (l : List (List UInt8)) (c : Nat) (w : World) (hA : Cells w A (strCells l)) (hl : l.length ≤ 1099511627776) (hn : A = none → c = 0) :
    Calls Tryz.prog 96 #[.slice A l.length c] w fun e w' => ∃ v', e = .returned v' ∧ w'.ownsRow w.heap.size 9 1 v' l.length (strCells l) ∧ Below w.heap.size w w' := by
  have q22 : ∀ (w : World) (a : Option Addr) (n c n' c' : Nat), (binOp .eql 26 (.slice a n c) (.slice none n' c')).run Tryz.prog w = .ok (.bool a.isNone) w := fun w a n c n' c' => Lib.run_eql_slice_nil w _ _ a n c n' c' Tryz.underlying26
  obtain ⟨i0, hi, hz0, hz1, hz2⟩ := info_parts Tryz.infoStrP
  cases A with
  | none =>
    have hl0 : l = [] := by
      rcases hA with h | ⟨b, off, he, _⟩
      · have := congrArg List.length h; rw [strCells_length] at this; exact List.length_eq_zero_iff.1 (by simpa using this)
      · cases he
    subst hl0
    go_enter Tryz.func96, Tryz.ntmps96
    go_wp2_with fail
    go_ret
    exact ⟨_, rfl, World.ownsRow_nil _ _ _ _, Below.refl _ _⟩
  | some ad =>
    go_enter Tryz.func96, Tryz.ntmps96
    go_wp2_with (at_builtin; refine wpList_app rfl _ _ 26 rfl w.heap.size 9 i0 (.string ⟨#[]⟩) 1 16 Tryz.underlying26 hi hz0 hz1 hz2 rfl (by decide) _ 0 [] rfl (World.ownsRow_made w #[] 0 (Nat.le_refl _) (Nat.zero_le _) rfl) (some ad) l.length c (strCells l) rfl (hA.below ((Below.refl _ _).alloc (Nat.le_refl _) _)) (by rw [strCells_length]; simp) (fun h => by cases h) (one_strs _) (by unfold maxLen; omega) (by omega) (by simp) ?_; intro v1 w3 hown1 hbl1; rw [Nat.zero_add, List.nil_append] at hown1)
    go_ret
    exact ⟨_, rfl, hown1, ((Below.refl _ _).alloc (Nat.le_refl _) _).trans hbl1⟩
/-- 'slices.Index' at a slice of ints, wherever it stands. -/
theorem index_any (A : Option Addr) (l : List Int) (c : Nat) (x : Int) (w : World) (hA : Cells w A (intCells l)) (hl : l.length ≤ 17592186044416) (M : List (List UInt8)) :
    Calls Tryz.prog 97 #[.slice A l.length c, .int .i64 x] w fun e w' => e = .returned (.int .i64 (Pn.find ⟨l, M⟩ x)) ∧ w' = w := by
  cases l with
  | nil =>
    refine (Tryz.slices_Index_int_empty A c x w).mono ?_
    rintro e w' ⟨rfl, rfl⟩
    exact ⟨rfl, rfl⟩
  | cons a l =>
    obtain ⟨b, off, rfl, hc⟩ := hA.int (i := 0) (by simp)
    refine (Tryz.slices_Index_int b off (a :: l).length c (a :: l) x w (Nat.le_refl _) (by omega) (fun j hj => by rw [hc j hj, List.getD_eq_getElem?_getD, List.getElem?_eq_getElem hj]; rfl)).mono ?_
    rintro e w' ⟨rfl, rfl⟩
    refine ⟨?_, rfl⟩
    congr 2
    have hD : ∀ j (hj : j < (a :: l).length), (a :: l).getD j 0 = (a :: l)[j] := fun j hj => by rw [List.getD_eq_getElem?_getD, List.getElem?_eq_getElem hj]; rfl
    by_cases h : x ∈ (a :: l)
    · obtain ⟨i, hi, h1, h2, h3⟩ := Pn.find_in (L := ⟨a :: l, M⟩) h
      rw [h1]
      refine Lib.idxOf_hit _ _ i x hi (Nat.le_refl _) ((hD i hi).trans h2) fun j hj => ?_
      rw [hD j (Nat.lt_trans hj hi)]
      intro e
      have := List.not_of_lt_findIdx (show j < List.findIdx (· == x) (a :: l) by rw [show List.findIdx (· == x) (a :: l) = i from h3]; exact hj)
      rw [e] at this
      simp at this
    · rw [Pn.find_out (L := ⟨a :: l, M⟩) h]
      refine Lib.idxOf_miss _ _ x fun j hj => ?_
      rw [hD j hj]
      intro e
      exact h (e ▸ List.getElem_mem hj)
theorem pl_outside (k : Int) (w : World) : Calls Tryz.prog 94 #[.int .i64 k] w fun e w' => e = .returned (.bool (!sectorOk k)) ∧ w' = w := by
  by_cases h0 : k < 0
  · have Hw := hid (show sectorOk k = false by simp [sectorOk]; omega)
    go_enter Tryz.func94, Tryz.ntmps94
    go_wp2_with fail
    go_ret
    exact ⟨by rw [Hw.out]; rfl, rfl⟩
  · have Hw := hid (show (!sectorOk k) = decide (1024 ≤ k) by simp [sectorOk]; rw [decide_eq_true (by omega : 0 ≤ k)]; simp; rw [← decide_not]; congr 1; simp)
    go_enter Tryz.func94, Tryz.ntmps94
    go_wp2_with fail
    go_ret
    exact ⟨by rw [Hw.out]; rfl, rfl⟩
theorem r5_sector (k : Int) (w : World) : Calls Tryz.prog 56 #[.int .i64 k] w fun e w' => e = .returned (.bool (sectorOk k)) ∧ Below w.heap.size w w' := by
  by_cases h0 : 0 ≤ k
  · have Hw := hid (show sectorOk k = decide (k < 1024) by simp [sectorOk, h0])
    go_enter Tryz.func56, Tryz.ntmps56
    go_wp2_with fail
    go_ret
    exact ⟨by rw [Hw.out]; rfl, Below.refl _ _⟩
  · have Hw := hid (show sectorOk k = false by simp [sectorOk, h0])
    go_enter Tryz.func56, Tryz.ntmps56
    go_wp2_with fail
    go_ret
    exact ⟨by rw [Hw.out]; rfl, Below.refl _ _⟩
set_option maxRecDepth 100000 in
theorem r5_find (L : Pn) (p q : Pl) (k : Int) (w : World) (hL : IsPn w L p q) (ht : L.targets.length ≤ 17592186044416) :
    Calls Tryz.prog 57 #[pval L p q, .int .i64 k] w fun e w' => e = .returned (.int .i64 (L.find k)) ∧ Below w.heap.size w w' := by
  have hc := fun (W : World) (hb : Below w.heap.size w W) => hL.targets.below hb
  clear hL
  obtain ⟨A1, c1⟩ := p
  obtain ⟨A2, c2⟩ := q
  simp only at hc
  have x0 := Blk.new w 28 #[.slice A1 L.targets.length c1, .slice A2 L.data.length c2]
  have b0 := (Below.refl w.heap.size w).alloc (Nat.le_refl _) (.cells #[.slice A1 L.targets.length c1, .slice A2 L.data.length c2] 28)
  go_enter Tryz.func57, Tryz.ntmps57
  go_wp2_with fail
  go_loopw [5] (fun x W => ∃ i : Nat, i ≤ L.targets.length ∧ x = .int .i64 i ∧ Hid (∀ j (hj : j < L.targets.length), j < i → L.targets[j] ≠ k) ∧
      Blk W w.heap.size 28 #[.slice A1 L.targets.length c1, .slice A2 L.data.length c2] ∧ Below w.heap.size w W) (fun x _ => L.targets.length - (intOf x).toNat)
  case atStart => exact ⟨0, Nat.zero_le _, rfl, hid (fun j hj h0 => by omega), x0, b0⟩
  case round =>
    clear x0 b0
    obtain ⟨i, hi, rfl, hok, hx, hb⟩ := hrel
    have k0 := blk2 hx
    by_cases hlt : i < L.targets.length
    · obtain ⟨pb, po, hpa, hcell⟩ := (hc _ hb).int hlt
      subst hpa
      have y0 := hcell i hlt
      clear hcell
      by_cases he : L.targets[i] = k
      · have he1 : (L.targets[i] == k) = true := by simpa using he
        have Hf := hid (Pn.find_hit hlt he hok.out)
        clear he
        go_wp2_with fail
        go_ret
        exact ⟨by rw [Hf.out]; rfl, hb⟩
      · have he1 : (L.targets[i] == k) = false := by simpa using he
        have He := hid he
        clear he
        go_wp2_with fail
        go_roundw
        case rel => exact ⟨i + 1, by omega, by go_num, hid (fun j hj hji => by
          rcases Nat.lt_or_ge j i with h' | h'
          · exact hok.out j hj h'
          · obtain rfl : j = i := by omega
            exact He.out), hx, hb⟩
        case measure => simp [intOf]; omega
    · have Hf := hid (Pn.find_miss fun j hj => hok.out j hj (by omega))
      clear hok
      go_wp2_with fail
      go_ret
      exact ⟨by rw [Hf.out]; rfl, hb⟩
end Go.Proofs.YtjhnaeomaigimaaGreatDoor
set_option linter.unusedVariables false
namespace Go.Proofs.YtjhnaeomaigimaaGreatDoor
open Go.RowKit Go.Shelf
attribute [local go_sem] bs_mk bs_append bs_extract bs_size bs_toList bs_get

set_option maxRecDepth 100000 in
theorem pl_set_outside (L : Pn) (p q : Pl) (w : World) (hL : IsPn w L p q) (k : Int) (s : List UInt8) (h1 : sectorOk k = false) :
    Calls Tryz.prog 44 #[pval L p q, .int .i64 k, .string (bs s)] w fun e w' => RetPn w.heap.size L p q (L.set k s) e w' ∧ Below w.heap.size w w' := by
  have Hw := hid (show L.set k s = (L, 10) by simp [Pn.set, h1])
  have ho := fun W => pl_outside k W
  rw [h1] at ho
  obtain ⟨A1, c1⟩ := p
  obtain ⟨A2, c2⟩ := q
  have hb0 := below_two w (.cells #[.slice A1 L.targets.length c1, .slice A2 L.data.length c2] 28) (.cells #[.slice none 0 0, .slice none 0 0] 28)
  go_enter Tryz.func44, Tryz.ntmps44
  go_wp2_with fail
  go_at_call 94
  refine (ho _).mono ?_
  rintro e w1 ⟨rfl, rfl⟩
  go_wp2_with fail
  rw [Hw.out]
  have yy := blk2 (Blk.new (w.alloc (.cells #[.slice A1 L.targets.length c1, .slice A2 L.data.length c2] 28)) 28 #[.slice A1 L.targets.length c1, .slice A2 L.data.length c2])
  simp only [World.size_alloc] at yy
  have hb1 := below_two w (.cells #[.slice A1 L.targets.length c1, .slice A2 L.data.length c2] 28) (.cells #[.slice A1 L.targets.length c1, .slice A2 L.data.length c2] 28)
  refine bodyPost_ret (v := .tuple #[pval L ⟨A1, c1⟩ ⟨A2, c2⟩, .int .i64 10]) (by simp [results, Tryz.results44, go_sem, yy]) rfl ?_
  exact ⟨⟨_, _, rfl, hL.below hb1, fun _ _ h => h⟩, hb1⟩
set_option maxRecDepth 100000 in
theorem pl_set_size (L : Pn) (p q : Pl) (w : World) (hL : IsPn w L p q) (k : Int) (s : List UInt8) (hs : s.length ≤ 9223372036854775807) (h1 : sectorOk k = true) (h2 : s.length ≠ 64) :
    Calls Tryz.prog 44 #[pval L p q, .int .i64 k, .string (bs s)] w fun e w' => RetPn w.heap.size L p q (L.set k s) e w' ∧ Below w.heap.size w w' := by
  have Hw := hid (show L.set k s = (L, 11) by simp [Pn.set, h1, h2])
  have ho := fun W => pl_outside k W
  rw [h1] at ho
  have n0 : ((s.length : Int) != 64) = true := by simp; omega
  obtain ⟨A1, c1⟩ := p
  obtain ⟨A2, c2⟩ := q
  go_enter Tryz.func44, Tryz.ntmps44
  go_wp2_with fail
  go_at_call 94
  refine (ho _).mono ?_
  rintro e w1 ⟨rfl, rfl⟩
  go_wp2_with fail
  rw [Hw.out]
  have yy := blk2 (Blk.new (w.alloc (.cells #[.slice A1 L.targets.length c1, .slice A2 L.data.length c2] 28)) 28 #[.slice A1 L.targets.length c1, .slice A2 L.data.length c2])
  simp only [World.size_alloc] at yy
  have hb1 := below_two w (.cells #[.slice A1 L.targets.length c1, .slice A2 L.data.length c2] 28) (.cells #[.slice A1 L.targets.length c1, .slice A2 L.data.length c2] 28)
  refine bodyPost_ret (v := .tuple #[pval L ⟨A1, c1⟩ ⟨A2, c2⟩, .int .i64 11]) (by simp [results, Tryz.results44, go_sem, yy]) rfl ?_
  exact ⟨⟨_, _, rfl, hL.below hb1, fun _ _ h => h⟩, hb1⟩
end Go.Proofs.YtjhnaeomaigimaaGreatDoor
