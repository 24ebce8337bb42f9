/- Package plan and the document's, function by function: a target's place, slices that are copied. Package plan: a plan with a sector more. -/
import Derived.Test.YtlapjkbefkmohaaGreatSdPlain1
import Derived.Test.YtlapjkbefkmohaaGreatSdDev2
import Derived.Lib.ConvBytes
import Derived.Lib.LazyBuf
import Derived.StillTailTactics
import Derived.Test.YtlapjkbefkmohaaGreatSdRef01
set_option linter.unusedVariables false
namespace Go.Proofs.YtlapjkbefkmohaaGreat
open Go.RowKit Go.Shelf
attribute [local go_sem] bs_mk bs_append bs_extract bs_size bs_toList bs_get

theorem Tryz.infoIntP : (Tryz.prog.info? 3).map (fun i => (i.zero, i.size, i.bytes)) = some (some (.int .i64 0), 1, 8) := by kernel_rfl
theorem Tryz.infoStrP : (Tryz.prog.info? 9).map (fun i => (i.zero, i.size, i.bytes)) = some (some (.string ⟨#[]⟩), 1, 16) := by kernel_rfl
/-- 'slices.Index' at a slice of ints, wherever it stands. -/
theorem index_any (A : Option Addr) (l : List Int) (c : Nat) (x : Int) (w : World) (hA : Cells w A (intCells l)) (hl : l.length ≤ 17592186044416) (M : List (List UInt8)) :
 Calls Tryz.prog 125 #[.slice A l.length c, .int .i64 x] w fun e w' => e = .returned (.int .i64 (Pn.find ⟨l, M⟩ x)) ∧ w' = w := by
 cases l with
 | nil =>
  refine (Tryz.slices_Index_int_empty A c x w).mono ?_
  rintro e w' ⟨rfl, rfl⟩
  exact ⟨rfl, rfl⟩
 | cons a l =>
  obtain ⟨b, off, rfl, hc⟩ := hA.int (i := 0) (by simp)
  refine (Tryz.slices_Index_int b off (a :: l).length c (a :: l) x w (Nat.le_refl _) (by omega) (fun j hj => by rw [hc j hj, List.getD_eq_getElem?_getD, List.getElem?_eq_getElem hj]; rfl)).mono ?_
  rintro e w' ⟨rfl, rfl⟩
  refine ⟨?_, rfl⟩
  congr 2
  have hD : ∀ j (hj : j < (a :: l).length), (a :: l).getD j 0 = (a :: l)[j] := fun j hj => by rw [List.getD_eq_getElem?_getD, List.getElem?_eq_getElem hj]; rfl
  by_cases h : x ∈ (a :: l)
  · obtain ⟨i, hi, h1, h2, h3⟩ := Pn.find_in (L := ⟨a :: l, M⟩) h
    rw [h1]
    refine Lib.idxOf_hit _ _ i x hi (Nat.le_refl _) ((hD i hi).trans h2) fun j hj => ?_
    rw [hD j (Nat.lt_trans hj hi)]
    intro e
    have := List.not_of_lt_findIdx (show j < List.findIdx (· == x) (a :: l) by rw [show List.findIdx (· == x) (a :: l) = i from h3]; exact hj)
    rw [e] at this
    simp at this
  · rw [Pn.find_out (L := ⟨a :: l, M⟩) h]
    refine Lib.idxOf_miss _ _ x fun j hj => ?_
    rw [hD j hj]
    intro e
    exact h (e ▸ List.getElem_mem hj)
theorem r5_sector (k : Int) (w : World) : Calls Tryz.prog 76 #[.int .i64 k] w fun e w' => e = .returned (.bool (sectorOk k)) ∧ Below w.heap.size w w' := by
 by_cases h0 : 0 ≤ k
 · have Hw := hid (show sectorOk k = decide (k < 1024) by simp [sectorOk, h0])
   go_enter Tryz.func76, Tryz.ntmps76
   go_wp2_with fail
   go_ret
   exact ⟨by rw [Hw.out]; rfl, Below.refl _ _⟩
 · have Hw := hid (show sectorOk k = false by simp [sectorOk, h0])
   go_enter Tryz.func76, Tryz.ntmps76
   go_wp2_with fail
   go_ret
   exact ⟨by rw [Hw.out]; rfl, Below.refl _ _⟩
set_option maxRecDepth 100000 in
theorem r5_find (L : Pn) (p q : Pl) (k : Int) (w : World) (hL : IsPn w L p q) (ht : L.targets.length ≤ 17592186044416) :
 Calls Tryz.prog 77 #[pval L p q, .int .i64 k] w fun e w' => e = .returned (.int .i64 (L.find k)) ∧ Below w.heap.size w w' := by
 have hc := fun (W : World) (hb : Below w.heap.size w W) => hL.targets.below hb
 clear hL
 obtain ⟨A1, c1⟩ := p
 obtain ⟨A2, c2⟩ := q
 simp only at hc
 have x0 := Blk.new w 67 #[.slice A1 L.targets.length c1, .slice A2 L.data.length c2]
 have b0 := (Below.refl w.heap.size w).alloc (Nat.le_refl _) (.cells #[.slice A1 L.targets.length c1, .slice A2 L.data.length c2] 67)
 go_enter Tryz.func77, Tryz.ntmps77
 go_wp2_with fail
 go_loopw [5] (fun x W => ∃ i : Nat, i ≤ L.targets.length ∧ x = .int .i64 i ∧ Hid (∀ j (hj : j < L.targets.length), j < i → L.targets[j] ≠ k) ∧
  Blk W w.heap.size 67 #[.slice A1 L.targets.length c1, .slice A2 L.data.length c2] ∧ Below w.heap.size w W) (fun x _ => L.targets.length - (intOf x).toNat)
 case atStart => exact ⟨0, Nat.zero_le _, rfl, hid (fun j hj h0 => by omega), x0, b0⟩
 case round =>
  clear x0 b0
  obtain ⟨i, hi, rfl, hok, hx, hb⟩ := hrel
  have k0 := blk2 hx
  by_cases hlt : i < L.targets.length
  · obtain ⟨pb, po, hpa, hcell⟩ := (hc _ hb).int hlt
    subst hpa
    have y0 := hcell i hlt
    clear hcell
    by_cases he : L.targets[i] = k
    · have he1 : (L.targets[i] == k) = true := by simpa using he
      have Hf := hid (Pn.find_hit hlt he hok.out)
      clear he
      go_wp2_with fail
      go_ret
      exact ⟨by rw [Hf.out]; rfl, hb⟩
    · have he1 : (L.targets[i] == k) = false := by simpa using he
      have He := hid he
      clear he
      go_wp2_with fail
      go_roundw
      case rel => exact ⟨i + 1, by omega, by go_num, hid (fun j hj hji => by
       rcases Nat.lt_or_ge j i with h' | h'
       · exact hok.out j hj h'
       · obtain rfl : j = i := by omega
         exact He.out), hx, hb⟩
      case measure => simp [intOf]; omega
  · have Hf := hid (Pn.find_miss fun j hj => hok.out j hj (by omega))
    clear hok
    go_wp2_with fail
    go_ret
    exact ⟨by rw [Hf.out]; rfl, hb⟩
end Go.Proofs.YtlapjkbefkmohaaGreat
